/- attr: AttrBack, the walk, cut short. -/
import Derived.Test.YtlpplclhjkbjbaaAtS
import Derived.Deep.DeepCutAuto
namespace Go.Proofs.Ytlpplclhjkbjbaa
set_option linter.unusedVariables false
open Go.RowKit

set_option maxRecDepth 100000 in
set_option maxHeartbeats 16000000 in
theorem back7_err (o : Int) (A : Option Addr) (n c : Nat) (zs : List Int) (h m : Int) (b : Bool) (k : Int) (w : World) (_ : (Lit.int .i64 o).wf = true) (_ : n ≤ c) (_ : c ≤ maxLen) (hN : Nums .i64 w w.heap.size A n zs) (hh : (Lit.int .u32 h).wf = true) (_ : (Lit.int .i64 m).wf = true) (hk : (Lit.int .u64 k).wf = true) (hcut : goodA o zs h m b = true → ∃ x, parseA ((attrsB o zs h m b).take (k % ((attrsB o zs h m b).length : Int)).toNat) = .error x) :
    Calls Try.prog 5 #[.agg #[.int .i64 o, .slice A n c, .int .u32 h, .int .i64 m, .bool b], .int .u64 k] w fun e w' => e = .returned (.bool true) ∧ Below w.heap.size w w' := by
  have h0 : 0 ≤ h := (bounds_u32 hh).1
  have h1 : h ≤ 4294967295 := by have := (bounds_u32 hh).2; omega
  obtain ⟨k0, k1⟩ := bounds_u64 hk
  have hnl := Lib.hid hN.1
  have hB := (Below.refl w.heap.size w).alloc (Nat.le_refl _) (.cells #[.int .i64 o, .slice A n c, .int .u32 h, .int .i64 m, .bool b] 39)
  have hq := Blk.new w 39 #[.int .i64 o, .slice A n c, .int .u32 h, .int .i64 m, .bool b]
  have hN0 := hN
  replace hN := hN.nx hB
  clear hh hk
  replace hcut := Lib.hid hcut
  go_enter Try.func5, Try.ntmps5
  go_upto_region 1 with (fail)
  generalize w.alloc (.cells #[.int .i64 o, .slice A n c, .int .u32 h, .int .i64 m, .bool b] 39) = w1 at *
  by_cases hn3 : 300 < n
  · have d300 : (300 : Int) < n := by omega
    have lt_hq := hq.lt
    have c0_hq : w1.cell? ⟨w.heap.size, 0, none⟩ = some (.int .i64 o) := hq.cellv 0 rfl
    have c1_hq : w1.cell? ⟨w.heap.size, 1, none⟩ = some (.slice A n c) := hq.cellv 1 rfl
    have c2_hq : w1.cell? ⟨w.heap.size, 2, none⟩ = some (.int .u32 h) := hq.cellv 2 rfl
    have c3_hq : w1.cell? ⟨w.heap.size, 3, none⟩ = some (.int .i64 m) := hq.cellv 3 rfl
    have c4_hq : w1.cell? ⟨w.heap.size, 4, none⟩ = some (.bool b) := hq.cellv 4 rfl
    go_wp2_with fail
    refine (lives7_any _).mono ?_
    rintro e wl ⟨rfl, hbl⟩
    go_wp2_with fail
    go_ret
    exact ⟨rfl, hB.trans (hbl.mono hB.size)⟩
  have d300 : (n : Int) ≤ 300 := by omega
  have lt_hq := hq.lt
  have c0_hq : w1.cell? ⟨w.heap.size, 0, none⟩ = some (.int .i64 o) := hq.cellv 0 rfl
  have c1_hq : w1.cell? ⟨w.heap.size, 1, none⟩ = some (.slice A n c) := hq.cellv 1 rfl
  have c2_hq : w1.cell? ⟨w.heap.size, 2, none⟩ = some (.int .u32 h) := hq.cellv 2 rfl
  have c3_hq : w1.cell? ⟨w.heap.size, 3, none⟩ = some (.int .i64 m) := hq.cellv 3 rfl
  have c4_hq : w1.cell? ⟨w.heap.size, 4, none⟩ = some (.bool b) := hq.cellv 4 rfl
  go_wp2_with fail
  refine (attrBytes_any w1 o A n c zs h m b hN h0 h1).mono ?_
  rintro e w2 ⟨v, rfl, own, hb⟩
  clear lt_hq c0_hq c1_hq c2_hq c3_hq c4_hq
  replace hq := hq.below hb hq.lt
  replace hN := hN.nx hb
  replace hB := hB.trans (hb.mono hB.size)
  clear hb
  cases hg : goodA o zs h m b
  · have e0 : attrsB o zs h m b = [] := by unfold attrsB; rw [hg]; rfl
    rw [e0] at own
    obtain ⟨A1, c1, rfl, _⟩ := own.any2
    replace e0 := Lib.hid e0
    clear own
    have lt_hq := hq.lt
    have c0_hq : w2.cell? ⟨w.heap.size, 0, none⟩ = some (.int .i64 o) := hq.cellv 0 rfl
    have c1_hq : w2.cell? ⟨w.heap.size, 1, none⟩ = some (.slice A n c) := hq.cellv 1 rfl
    have c2_hq : w2.cell? ⟨w.heap.size, 2, none⟩ = some (.int .u32 h) := hq.cellv 2 rfl
    have c3_hq : w2.cell? ⟨w.heap.size, 3, none⟩ = some (.int .i64 m) := hq.cellv 3 rfl
    have c4_hq : w2.cell? ⟨w.heap.size, 4, none⟩ = some (.bool b) := hq.cellv 4 rfl
    go_wp2_with fail
    refine (attrGood_any w2 o A n c zs h m b hN h0 h1).mono ?_
    rintro e w3 ⟨rfl, hb⟩
    rw [hg]
    replace hB := hB.trans (hb.mono hB.size)
    go_wp2_with fail
    refine (lives7_any w3).mono ?_
    rintro e wl ⟨rfl, hbl⟩
    go_wp2_with fail
    go_ret
    exact ⟨rfl, hB.trans (hbl.mono hB.size)⟩
  have hlen := attrsB_len hg
  have E1 := parseA_back hg h0 h1
  have E2 := hcut.out hg
  clear hcut
  have E3 := parseA_dup hg h0 h1
  have E4 := parseA_drop hg h0 h1
  replace E1 := Lib.hid E1
  replace E2 := Lib.hid E2
  replace E3 := Lib.hid E3
  replace E4 := Lib.hid E4
  generalize attrsB o zs h m b = L at *
  obtain ⟨l14, l56⟩ := hlen
  obtain ⟨A1, c1, rfl, hnc1, hcm1, by7, _⟩ := own.any2
  replace hg := Lib.hid hg
  have hne : ((L.length : Int) == 0) = false := by rw [beq_eq_false_iff_ne]; omega
  have hcutL : ((k % (L.length : Int)).toNat : Int) = k % (L.length : Int) := by
    have := Int.emod_nonneg k (show (L.length : Int) ≠ 0 by omega); omega
  have hcutlt : (k % (L.length : Int)).toNat < L.length := by
    have := Int.emod_lt_of_pos k (show (0 : Int) < L.length by omega); omega
  have hcu0 : 0 ≤ k % (L.length : Int) := Int.emod_nonneg k (show (L.length : Int) ≠ 0 by omega)
  have hcu1 : k % (L.length : Int) ≤ 56 := by have := Int.emod_lt_of_pos k (show (0 : Int) < L.length by omega); omega
  obtain ⟨A3, hsl3, hby3⟩ := slice_take A1 L.length c1 (k % (L.length : Int)).toNat (by omega) hnc1
  rw [hcutL] at hsl3
  generalize (k % (L.length : Int)).toNat = cu at *
  replace hcutL := Lib.hid hcutL
  clear own
  go_wp2_with fail
  have hlo6 : w.heap.size + 1 ≤ w2.heap.size := hq.lt
  refine (attrParse_any w2 A1 L.length c1 L by7 (by omega)).mono ?_
  rintro e v6 ⟨hb, hP⟩
  rw [E1.out] at hP
  have hgt6 : w.heap.size + 1 ≤ v6.heap.size := Nat.le_trans hlo6 hb.size
  obtain ⟨X6, m6, d6, rfl, hN6⟩ := hP.yes
  clear hP
  replace hq := hq.below hb hq.lt
  replace hN := hN.nx hb
  replace by7 := by7.nx hb
  replace hB := hB.trans (hb.mono hB.size)
  clear hb
  have hx6 := (Blk.new v6 39 #[.int .i64 o, .slice X6 m6 d6, .int .u32 h, .int .i64 m, .bool b]).alloc (.cells #[.int .i64 0, .int .i64 0, .slice none 0 0] 31)
  have hf6 : Blk ((v6.alloc (.cells #[.int .i64 o, .slice X6 m6 d6, .int .u32 h, .int .i64 m, .bool b] 39)).alloc (.cells #[.int .i64 0, .int .i64 0, .slice none 0 0] 31)) (v6.heap.size + 1) 31 #[.int .i64 0, .int .i64 0, .slice none 0 0] := by
    have := Blk.new (v6.alloc (.cells #[.int .i64 o, .slice X6 m6 d6, .int .u32 h, .int .i64 m, .bool b] 39)) 31 #[.int .i64 0, .int .i64 0, .slice none 0 0]
    simpa using this
  have hba := ((Below.refl v6.heap.size v6).alloc (Nat.le_refl _) (.cells #[.int .i64 o, .slice X6 m6 d6, .int .u32 h, .int .i64 m, .bool b] 39)).alloc (by simp) (.cells #[.int .i64 0, .int .i64 0, .slice none 0 0] 31)
  replace hq := hq.below hba hq.lt
  replace hN := hN.nx hba
  replace hN6 := hN6.nx hba
  replace by7 := by7.nx hba
  replace hB := hB.trans (hba.mono hB.size)
  clear hba
  go_upto_region 7 with (fail)
  generalize (v6.alloc (.cells #[.int .i64 o, .slice X6 m6 d6, .int .u32 h, .int .i64 m, .bool b] 39)).alloc (.cells #[.int .i64 0, .int .i64 0, .slice none 0 0] 31) = u6 at *
  generalize v6.heap.size = g6 at *
  have by3 := hby3 _ _ _ by7
  go_wp2_with fail
  skip
  obtain ⟨x, hx⟩ := E2.out
  obtain ⟨x, xd⟩ := x
  replace E2 := Lib.hid hx
  clear hx
  have hlo8 : w.heap.size + 1 ≤ u6.heap.size := hq.lt
  refine (attrParse_any u6 A3 cu c1 (L.take cu) by3 (by omega)).mono ?_
  rintro e v8 ⟨hb, hP⟩
  rw [E2.out] at hP
  have hgt8 : w.heap.size + 1 ≤ v8.heap.size := Nat.le_trans hlo8 hb.size
  obtain ⟨X8, d8, rfl, hd8, by8, hz8⟩ := hP.no
  generalize xd.length = nn8 at *
  clear hP
  replace hq := hq.below hb hq.lt
  replace hx6 := hx6.below hb hx6.lt
  replace hf6 := hf6.below hb hf6.lt
  replace hN := hN.nx hb
  replace hN6 := hN6.nx hb
  replace by7 := by7.nx hb
  replace hB := hB.trans (hb.mono hB.size)
  clear hb
  have hx8 := (Blk.new v8 39 #[.int .i64 0, .slice none 0 0, .int .u32 0, .int .i64 0, .bool false]).alloc (.cells #[.int .i64 3, .int .i64 x, .slice X8 nn8 d8] 31)
  have hf8 : Blk ((v8.alloc (.cells #[.int .i64 0, .slice none 0 0, .int .u32 0, .int .i64 0, .bool false] 39)).alloc (.cells #[.int .i64 3, .int .i64 x, .slice X8 nn8 d8] 31)) (v8.heap.size + 1) 31 #[.int .i64 3, .int .i64 x, .slice X8 nn8 d8] := by
    have := Blk.new (v8.alloc (.cells #[.int .i64 0, .slice none 0 0, .int .u32 0, .int .i64 0, .bool false] 39)) 31 #[.int .i64 3, .int .i64 x, .slice X8 nn8 d8]
    simpa using this
  have hba := ((Below.refl v8.heap.size v8).alloc (Nat.le_refl _) (.cells #[.int .i64 0, .slice none 0 0, .int .u32 0, .int .i64 0, .bool false] 39)).alloc (by simp) (.cells #[.int .i64 3, .int .i64 x, .slice X8 nn8 d8] 31)
  replace hq := hq.below hba hq.lt
  replace hx6 := hx6.below hba hx6.lt
  replace hf6 := hf6.below hba hf6.lt
  replace hN := hN.nx hba
  replace hN6 := hN6.nx hba
  replace by7 := by7.nx hba
  replace by8 := by8.nx hba
  replace hB := hB.trans (hba.mono hB.size)
  clear hba
  go_upto_region 8 with (fail)
  generalize (v8.alloc (.cells #[.int .i64 0, .slice none 0 0, .int .u32 0, .int .i64 0, .bool false] 39)).alloc (.cells #[.int .i64 3, .int .i64 x, .slice X8 nn8 d8] 31) = u8 at *
  generalize v8.heap.size = g8 at *
  clear by3 hby3 hsl3
  obtain ⟨A4, hsl4, hby4⟩ := slice_take A1 L.length c1 4 (by omega) hnc1
  have c44 : ((4 : Nat) : Int) = 4 := rfl
  rw [c44] at hsl4
  have by4 := hby4 _ _ _ by7
  go_cut [10, 11] (fun s10 s11 wx => Left8 u8 s10 s11 wx)
  case first =>
    have hi : (Try.prog.info? 39).map (·.size) = some 5 := by kernel_rfl
    have hj : (Try.prog.info? 31).map (·.size) = some 3 := by kernel_rfl
    have HB := (Below.refl u8.heap.size u8).drew
    -- region 8: 0M 1 2M 3 4 5M 6C 7 8 9 10M 11M 12M 13M
    try refine wp_region_noPanic ?_
    have hs1r : Below u8.heap.size u8 u8.drew := (Below.refl _ _).drew
    refine wp_region_held_drew (S := fun w' => Below u8.heap.size u8 w') (by kernel_rfl) hs1r (fun _ => ?_)
    (refine held_takeA 1 (by rfl) ?_ (by kernel_rfl) (fun _ _ _ h => h) hs1r ?_ ?_; rotate_left; (focus (intro wq hSw; have hrd : ∀ b o, b < u8.heap.size → wq.cell? ⟨b, o, none⟩ = u8.cell? ⟨b, o, none⟩ := (fun b o h => hSw.cell (p := ⟨b, o, none⟩) h); go_simp; try with_reducible rfl; done)); try simp only [Act.put, List.setIfInBounds_toArray, List.set_cons_zero, List.set_cons_succ])
    (refine held_takeA 3 (by rfl) ?_ (by kernel_rfl) (fun _ _ _ h => h) hs1r ?_ ?_; rotate_left; (focus (intro wq hSw; have hrd : ∀ b o, b < u8.heap.size → wq.cell? ⟨b, o, none⟩ = u8.cell? ⟨b, o, none⟩ := (fun b o h => hSw.cell (p := ⟨b, o, none⟩) h); go_simp; try with_reducible rfl; done)); try simp only [Act.put, List.setIfInBounds_toArray, List.set_cons_zero, List.set_cons_succ])
    (refine held_takeA 4 (by rfl) ?_ (by kernel_rfl) (fun _ _ _ h => h) hs1r ?_ ?_; rotate_left; (focus (intro wq hSw; have hrd : ∀ b o, b < u8.heap.size → wq.cell? ⟨b, o, none⟩ = u8.cell? ⟨b, o, none⟩ := (fun b o h => hSw.cell (p := ⟨b, o, none⟩) h); go_simp; try with_reducible rfl; done)); try simp only [Act.put, List.setIfInBounds_toArray, List.set_cons_zero, List.set_cons_succ])
    refine held_three 0 10 11 (by rfl) (by rfl) (by rfl) (by kernel_rfl) (by rfl) (by rfl) (by rfl) (fun KQ hKQ => ?_) (fun KQ hKQ => ?_) (fun KQ hKQ => ?_)
    · skip
      go_simp
      have hbs : Below u8.heap.size u8 (u8.alloc (.cells #[] 5)).drew := ((Below.refl u8.heap.size u8).alloc (Nat.le_refl _) (.cells #[] 5)).drew
      have HB2 : Below u8.heap.size u8 (u8.alloc (.cells #[] 5)).drew := hbs
      have row : OwnB (u8.alloc (.cells #[] 5)).drew u8.heap.size (.slice (some ⟨u8.heap.size, 0, none⟩) 0 0) 0 [] := by
        have := OwnB.lit (base := u8.heap.size) u8 [] (Nat.le_refl _) (by simp)
        rw [show byCells [] = #[] from rfl] at this
        exact OwnB.less this (Nat.le_refl _)
      generalize (u8.alloc (.cells #[] 5)).drew = x1 at *
      clear HB hbs
      have HB := HB2
      clear HB2
      have hs2r := HB
      refine hKQ.out _ _ hs2r ?_
      clear hKQ KQ
      try simp only [Act.put, List.setIfInBounds_toArray, List.set_cons_zero, List.set_cons_succ]
      refine held_three 2 10 11 (by rfl) (by rfl) (by rfl) (by kernel_rfl) (by rfl) (by rfl) (by rfl) (fun KQ hKQ => ?_) (fun KQ hKQ => ?_) (fun KQ hKQ => ?_)
      · skip
        refine wp_app _ (.tmp 48) (.tmp 49) (by rfl) u8.heap.size _ 0 [] (by rfl) row _ A1 L.length c1 _ (by rfl) (by7.nx HB) (by omega) HB.size ?_
        intro vr x2 row2 hgr hdr
        clear hdr
        have hba := row.below_app hgr HB.size
        replace HB := HB.trans hba
        clear row hba hgr
        have row := row2
        clear row2
        rw [Nat.zero_add, List.nil_append] at row
        obtain ⟨Ar, cr, rfl, hnr, hcr, byr, _⟩ := row.any2
        clear hnr hcr byr
        have hs3r := HB
        refine hKQ.out _ _ hs3r ?_
        clear hKQ KQ
        try simp only [Act.put, List.setIfInBounds_toArray, List.set_cons_zero, List.set_cons_succ]
        refine held_three 5 10 11 (by rfl) (by rfl) (by rfl) (by kernel_rfl) (by rfl) (by rfl) (by rfl) (fun KQ hKQ => ?_) (fun KQ hKQ => ?_) (fun KQ hKQ => ?_)
        · skip
          refine wp_app _ (.tmp 50) (.tmp 52) (by rfl) u8.heap.size _ _ _ (by rfl) row _ A4 4 c1 _ (by rfl) (by4.nx HB) (by omega) HB.size ?_
          intro vr x3 row2 hgr hdr
          clear hdr
          have hba := row.below_app hgr HB.size
          replace HB := HB.trans hba
          clear row hba hgr
          have row := row2
          clear row2
          obtain ⟨Ar, cr, rfl, hnr, hcr, byr, _⟩ := row.any2
          have hs4r := HB
          refine hKQ.out _ _ hs4r ?_
          clear hKQ KQ
          try simp only [Act.put, List.setIfInBounds_toArray, List.set_cons_zero, List.set_cons_succ]
          refine held_three 6 10 11 (by rfl) (by rfl) (by rfl) (by kernel_rfl) (by rfl) (by rfl) (by rfl) (fun KQ hKQ => ?_) (fun KQ hKQ => ?_) (fun KQ hKQ => ?_)
          · skip
            go_simp
            refine (attrParse_any x3 Ar _ cr _ byr (by omega)).mono ?_
            rintro e x4 ⟨hb, hP⟩
            rw [E3.out] at hP
            obtain ⟨XX, dd, rfl, _, _, _⟩ := hP.no
            rw [show ([] : List UInt8).length = 0 from rfl]
            clear hP byr hnr hcr
            replace HB := HB.trans (hb.mono HB.size)
            clear row hb
            have hs5r := HB
            refine hKQ.out _ _ hs5r ?_
            clear hKQ KQ
            try simp only [Act.put, List.setIfInBounds_toArray, List.set_cons_zero, List.set_cons_succ]
            (refine held_takeA 7 (by rfl) ?_ (by kernel_rfl) (fun _ _ _ h => h) hs5r ?_ ?_; rotate_left; (focus (intro wq hSw; have hrd : ∀ b o, b < u8.heap.size → wq.cell? ⟨b, o, none⟩ = u8.cell? ⟨b, o, none⟩ := (fun b o h => hSw.cell (p := ⟨b, o, none⟩) h); go_simp; try with_reducible rfl; done)); try simp only [Act.put, List.setIfInBounds_toArray, List.set_cons_zero, List.set_cons_succ])
            (refine held_takeA 8 (by rfl) ?_ (by kernel_rfl) (fun _ _ _ h => h) hs5r ?_ ?_; rotate_left; (focus (intro wq hSw; have hrd : ∀ b o, b < u8.heap.size → wq.cell? ⟨b, o, none⟩ = u8.cell? ⟨b, o, none⟩ := (fun b o h => hSw.cell (p := ⟨b, o, none⟩) h); go_simp; try with_reducible rfl; done)); try simp only [Act.put, List.setIfInBounds_toArray, List.set_cons_zero, List.set_cons_succ])
            (refine held_takeA 9 (by rfl) ?_ (by kernel_rfl) (fun _ _ _ h => h) hs5r ?_ ?_; rotate_left; (focus (intro wq hSw; have hrd : ∀ b o, b < u8.heap.size → wq.cell? ⟨b, o, none⟩ = u8.cell? ⟨b, o, none⟩ := (fun b o h => hSw.cell (p := ⟨b, o, none⟩) h); go_simp; try with_reducible rfl; done)); try simp only [Act.put, List.setIfInBounds_toArray, List.set_cons_zero, List.set_cons_succ])
            refine held_two 10 11 (by rfl) (by rfl) (by kernel_rfl) (by rfl) (by rfl) (fun KQ hKQ => ?_) (fun KQ hKQ => ?_)
            · skip
              go_simp
              have hbs : Below x4.heap.size x4 (x4.alloc (.cells #[.int .i64 0, .slice none 0 0, .int .u32 0, .int .i64 0, .bool false] 39)) := ((Below.refl x4.heap.size x4).alloc (Nat.le_refl _) (.cells #[.int .i64 0, .slice none 0 0, .int .u32 0, .int .i64 0, .bool false] 39))
              have HB2 : Below u8.heap.size u8 (x4.alloc (.cells #[.int .i64 0, .slice none 0 0, .int .u32 0, .int .i64 0, .bool false] 39)) := HB.trans (hbs.mono HB.size)
              have hx : Blk (x4.alloc (.cells #[.int .i64 0, .slice none 0 0, .int .u32 0, .int .i64 0, .bool false] 39)) x4.heap.size 39 #[.int .i64 0, .slice none 0 0, .int .u32 0, .int .i64 0, .bool false] := Blk.new x4 39 #[.int .i64 0, .slice none 0 0, .int .u32 0, .int .i64 0, .bool false]
              have kx : u8.heap.size ≤ x4.heap.size := HB.size
              generalize (x4.alloc (.cells #[.int .i64 0, .slice none 0 0, .int .u32 0, .int .i64 0, .bool false] 39)) = x5 at *
              clear HB hbs
              have HB := HB2
              clear HB2
              have hs6r := HB
              refine hKQ.out _ _ hs6r ?_
              clear hKQ KQ
              try simp only [Act.put, List.setIfInBounds_toArray, List.set_cons_zero, List.set_cons_succ]
              refine held_callA 11 (by rfl) (by kernel_rfl) (by rfl) (fun KQ hKQ => ?_)
              go_simp
              have hbs : Below x5.heap.size x5 (x5.alloc (.cells #[.int .i64 0, .int .i64 0, .slice none 0 0] 31)) := ((Below.refl x5.heap.size x5).alloc (Nat.le_refl _) (.cells #[.int .i64 0, .int .i64 0, .slice none 0 0] 31))
              have HB2 : Below u8.heap.size u8 (x5.alloc (.cells #[.int .i64 0, .int .i64 0, .slice none 0 0] 31)) := HB.trans (hbs.mono HB.size)
              replace hx := hx.below hbs hx.lt
              have hf : Blk (x5.alloc (.cells #[.int .i64 0, .int .i64 0, .slice none 0 0] 31)) x5.heap.size 31 #[.int .i64 0, .int .i64 0, .slice none 0 0] := Blk.new x5 31 #[.int .i64 0, .int .i64 0, .slice none 0 0]
              have kf : u8.heap.size ≤ x5.heap.size := HB.size
              generalize (x5.alloc (.cells #[.int .i64 0, .int .i64 0, .slice none 0 0] 31)) = x6 at *
              clear HB hbs
              have HB := HB2
              clear HB2
              have hs7r := HB
              refine hKQ.out _ _ hs7r ?_
              clear hKQ KQ
              try simp only [Act.put, List.setIfInBounds_toArray, List.set_cons_zero, List.set_cons_succ]
              refine held_callA 12 (by rfl) (by kernel_rfl) (by rfl) (fun KQ hKQ => ?_)
              refine wp_store_blk hx 39 (.tmp 10) (.tmp 55) (by rfl) (by rfl) (by rfl) (by rfl) (by exact hi) (by simp [Value.oneCell']) ?_
              intro wy hx2 hgx
              replace hf := hf.grown hgx (blk_ne hf hx (by decide))
              replace HB := below_own HB hgx HB.size kx
              have hs8r := HB
              refine hKQ.out _ _ hs8r ?_
              clear hKQ KQ
              try simp only [Act.put]
              refine held_callA 13 (by rfl) (by kernel_rfl) (by rfl) (fun KQ hKQ => ?_)
              refine wp_store_blk hf 31 (.tmp 11) (.tmp 56) (by rfl) (by rfl) (by rfl) (by rfl) (by exact hj) (by simp [Value.oneCell']) ?_
              intro wz hf2 hgf
              replace HB := below_own HB hgf HB.size kf
              have hs9r := HB
              refine hKQ.out _ _ hs9r ?_
              clear hKQ KQ
              try simp only [Act.put]
              refine wpAnyH_done (by kernel_rfl) ?_ _
              try refine NoPanic.normal ?_
              go_wp2_with fail
              go_meet
              exact left8_mk HB hf2
            · skip
              go_simp
              have hbs : Below x4.heap.size x4 (x4.alloc (.cells #[.int .i64 0, .int .i64 0, .slice none 0 0] 31)) := ((Below.refl x4.heap.size x4).alloc (Nat.le_refl _) (.cells #[.int .i64 0, .int .i64 0, .slice none 0 0] 31))
              have HB2 : Below u8.heap.size u8 (x4.alloc (.cells #[.int .i64 0, .int .i64 0, .slice none 0 0] 31)) := HB.trans (hbs.mono HB.size)
              have hf : Blk (x4.alloc (.cells #[.int .i64 0, .int .i64 0, .slice none 0 0] 31)) x4.heap.size 31 #[.int .i64 0, .int .i64 0, .slice none 0 0] := Blk.new x4 31 #[.int .i64 0, .int .i64 0, .slice none 0 0]
              have kf : u8.heap.size ≤ x4.heap.size := HB.size
              generalize (x4.alloc (.cells #[.int .i64 0, .int .i64 0, .slice none 0 0] 31)) = x7 at *
              clear HB hbs
              have HB := HB2
              clear HB2
              have hs10r := HB
              refine hKQ.out _ _ hs10r ?_
              clear hKQ KQ
              try simp only [Act.put, List.setIfInBounds_toArray, List.set_cons_zero, List.set_cons_succ]
              refine held_callA 10 (by rfl) (by kernel_rfl) (by rfl) (fun KQ hKQ => ?_)
              go_simp
              have hbs : Below x7.heap.size x7 (x7.alloc (.cells #[.int .i64 0, .slice none 0 0, .int .u32 0, .int .i64 0, .bool false] 39)) := ((Below.refl x7.heap.size x7).alloc (Nat.le_refl _) (.cells #[.int .i64 0, .slice none 0 0, .int .u32 0, .int .i64 0, .bool false] 39))
              have HB2 : Below u8.heap.size u8 (x7.alloc (.cells #[.int .i64 0, .slice none 0 0, .int .u32 0, .int .i64 0, .bool false] 39)) := HB.trans (hbs.mono HB.size)
              replace hf := hf.below hbs hf.lt
              have hx : Blk (x7.alloc (.cells #[.int .i64 0, .slice none 0 0, .int .u32 0, .int .i64 0, .bool false] 39)) x7.heap.size 39 #[.int .i64 0, .slice none 0 0, .int .u32 0, .int .i64 0, .bool false] := Blk.new x7 39 #[.int .i64 0, .slice none 0 0, .int .u32 0, .int .i64 0, .bool false]
              have kx : u8.heap.size ≤ x7.heap.size := HB.size
              generalize (x7.alloc (.cells #[.int .i64 0, .slice none 0 0, .int .u32 0, .int .i64 0, .bool false] 39)) = x8 at *
              clear HB hbs
              have HB := HB2
              clear HB2
              have hs11r := HB
              refine hKQ.out _ _ hs11r ?_
              clear hKQ KQ
              try simp only [Act.put, List.setIfInBounds_toArray, List.set_cons_zero, List.set_cons_succ]
              refine held_callA 12 (by rfl) (by kernel_rfl) (by rfl) (fun KQ hKQ => ?_)
              refine wp_store_blk hx 39 (.tmp 10) (.tmp 55) (by rfl) (by rfl) (by rfl) (by rfl) (by exact hi) (by simp [Value.oneCell']) ?_
              intro wy hx2 hgx
              replace hf := hf.grown hgx (blk_ne hf hx (by decide))
              replace HB := below_own HB hgx HB.size kx
              have hs12r := HB
              refine hKQ.out _ _ hs12r ?_
              clear hKQ KQ
              try simp only [Act.put]
              refine held_callA 13 (by rfl) (by kernel_rfl) (by rfl) (fun KQ hKQ => ?_)
              refine wp_store_blk hf 31 (.tmp 11) (.tmp 56) (by rfl) (by rfl) (by rfl) (by rfl) (by exact hj) (by simp [Value.oneCell']) ?_
              intro wz hf2 hgf
              replace HB := below_own HB hgf HB.size kf
              have hs13r := HB
              refine hKQ.out _ _ hs13r ?_
              clear hKQ KQ
              try simp only [Act.put]
              refine wpAnyH_done (by kernel_rfl) ?_ _
              try refine NoPanic.normal ?_
              go_wp2_with fail
              go_meet
              exact left8_mk HB hf2
          · skip
            go_simp
            have hbs : Below x3.heap.size x3 (x3.alloc (.cells #[.int .i64 0, .slice none 0 0, .int .u32 0, .int .i64 0, .bool false] 39)) := ((Below.refl x3.heap.size x3).alloc (Nat.le_refl _) (.cells #[.int .i64 0, .slice none 0 0, .int .u32 0, .int .i64 0, .bool false] 39))
            have HB2 : Below u8.heap.size u8 (x3.alloc (.cells #[.int .i64 0, .slice none 0 0, .int .u32 0, .int .i64 0, .bool false] 39)) := HB.trans (hbs.mono HB.size)
            replace row := row.below hbs
            replace byr := byr.nx hbs
            have hx : Blk (x3.alloc (.cells #[.int .i64 0, .slice none 0 0, .int .u32 0, .int .i64 0, .bool false] 39)) x3.heap.size 39 #[.int .i64 0, .slice none 0 0, .int .u32 0, .int .i64 0, .bool false] := Blk.new x3 39 #[.int .i64 0, .slice none 0 0, .int .u32 0, .int .i64 0, .bool false]
            have kx : u8.heap.size ≤ x3.heap.size := HB.size
            generalize (x3.alloc (.cells #[.int .i64 0, .slice none 0 0, .int .u32 0, .int .i64 0, .bool false] 39)) = x9 at *
            clear HB hbs
            have HB := HB2
            clear HB2
            have hs14r := HB
            refine hKQ.out _ _ hs14r ?_
            clear hKQ KQ
            try simp only [Act.put, List.setIfInBounds_toArray, List.set_cons_zero, List.set_cons_succ]
            refine held_two 6 11 (by rfl) (by rfl) (by kernel_rfl) (by rfl) (by rfl) (fun KQ hKQ => ?_) (fun KQ hKQ => ?_)
            · skip
              go_simp
              refine (attrParse_any x9 Ar _ cr _ byr (by omega)).mono ?_
              rintro e x10 ⟨hb, hP⟩
              rw [E3.out] at hP
              obtain ⟨XX, dd, rfl, _, _, _⟩ := hP.no
              rw [show ([] : List UInt8).length = 0 from rfl]
              clear hP byr hnr hcr
              replace HB := HB.trans (hb.mono HB.size)
              replace hx := hx.below hb hx.lt
              clear row hb
              have hs15r := HB
              refine hKQ.out _ _ hs15r ?_
              clear hKQ KQ
              try simp only [Act.put, List.setIfInBounds_toArray, List.set_cons_zero, List.set_cons_succ]
              (refine held_takeA 7 (by rfl) ?_ (by kernel_rfl) (fun _ _ _ h => h) hs15r ?_ ?_; rotate_left; (focus (intro wq hSw; have hrd : ∀ b o, b < u8.heap.size → wq.cell? ⟨b, o, none⟩ = u8.cell? ⟨b, o, none⟩ := (fun b o h => hSw.cell (p := ⟨b, o, none⟩) h); go_simp; try with_reducible rfl; done)); try simp only [Act.put, List.setIfInBounds_toArray, List.set_cons_zero, List.set_cons_succ])
              (refine held_takeA 8 (by rfl) ?_ (by kernel_rfl) (fun _ _ _ h => h) hs15r ?_ ?_; rotate_left; (focus (intro wq hSw; have hrd : ∀ b o, b < u8.heap.size → wq.cell? ⟨b, o, none⟩ = u8.cell? ⟨b, o, none⟩ := (fun b o h => hSw.cell (p := ⟨b, o, none⟩) h); go_simp; try with_reducible rfl; done)); try simp only [Act.put, List.setIfInBounds_toArray, List.set_cons_zero, List.set_cons_succ])
              (refine held_takeA 9 (by rfl) ?_ (by kernel_rfl) (fun _ _ _ h => h) hs15r ?_ ?_; rotate_left; (focus (intro wq hSw; have hrd : ∀ b o, b < u8.heap.size → wq.cell? ⟨b, o, none⟩ = u8.cell? ⟨b, o, none⟩ := (fun b o h => hSw.cell (p := ⟨b, o, none⟩) h); go_simp; try with_reducible rfl; done)); try simp only [Act.put, List.setIfInBounds_toArray, List.set_cons_zero, List.set_cons_succ])
              refine held_callA 11 (by rfl) (by kernel_rfl) (by rfl) (fun KQ hKQ => ?_)
              go_simp
              have hbs : Below x10.heap.size x10 (x10.alloc (.cells #[.int .i64 0, .int .i64 0, .slice none 0 0] 31)) := ((Below.refl x10.heap.size x10).alloc (Nat.le_refl _) (.cells #[.int .i64 0, .int .i64 0, .slice none 0 0] 31))
              have HB2 : Below u8.heap.size u8 (x10.alloc (.cells #[.int .i64 0, .int .i64 0, .slice none 0 0] 31)) := HB.trans (hbs.mono HB.size)
              replace hx := hx.below hbs hx.lt
              have hf : Blk (x10.alloc (.cells #[.int .i64 0, .int .i64 0, .slice none 0 0] 31)) x10.heap.size 31 #[.int .i64 0, .int .i64 0, .slice none 0 0] := Blk.new x10 31 #[.int .i64 0, .int .i64 0, .slice none 0 0]
              have kf : u8.heap.size ≤ x10.heap.size := HB.size
              generalize (x10.alloc (.cells #[.int .i64 0, .int .i64 0, .slice none 0 0] 31)) = x11 at *
              clear HB hbs
              have HB := HB2
              clear HB2
              have hs16r := HB
              refine hKQ.out _ _ hs16r ?_
              clear hKQ KQ
              try simp only [Act.put, List.setIfInBounds_toArray, List.set_cons_zero, List.set_cons_succ]
              refine held_callA 12 (by rfl) (by kernel_rfl) (by rfl) (fun KQ hKQ => ?_)
              refine wp_store_blk hx 39 (.tmp 10) (.tmp 55) (by rfl) (by rfl) (by rfl) (by rfl) (by exact hi) (by simp [Value.oneCell']) ?_
              intro wy hx2 hgx
              replace hf := hf.grown hgx (blk_ne hf hx (by decide))
              replace HB := below_own HB hgx HB.size kx
              have hs17r := HB
              refine hKQ.out _ _ hs17r ?_
              clear hKQ KQ
              try simp only [Act.put]
              refine held_callA 13 (by rfl) (by kernel_rfl) (by rfl) (fun KQ hKQ => ?_)
              refine wp_store_blk hf 31 (.tmp 11) (.tmp 56) (by rfl) (by rfl) (by rfl) (by rfl) (by exact hj) (by simp [Value.oneCell']) ?_
              intro wz hf2 hgf
              replace HB := below_own HB hgf HB.size kf
              have hs18r := HB
              refine hKQ.out _ _ hs18r ?_
              clear hKQ KQ
              try simp only [Act.put]
              refine wpAnyH_done (by kernel_rfl) ?_ _
              try refine NoPanic.normal ?_
              go_wp2_with fail
              go_meet
              exact left8_mk HB hf2
            · skip
              go_simp
              have hbs : Below x9.heap.size x9 (x9.alloc (.cells #[.int .i64 0, .int .i64 0, .slice none 0 0] 31)) := ((Below.refl x9.heap.size x9).alloc (Nat.le_refl _) (.cells #[.int .i64 0, .int .i64 0, .slice none 0 0] 31))
              have HB2 : Below u8.heap.size u8 (x9.alloc (.cells #[.int .i64 0, .int .i64 0, .slice none 0 0] 31)) := HB.trans (hbs.mono HB.size)
              replace hx := hx.below hbs hx.lt
              replace row := row.below hbs
              replace byr := byr.nx hbs
              have hf : Blk (x9.alloc (.cells #[.int .i64 0, .int .i64 0, .slice none 0 0] 31)) x9.heap.size 31 #[.int .i64 0, .int .i64 0, .slice none 0 0] := Blk.new x9 31 #[.int .i64 0, .int .i64 0, .slice none 0 0]
              have kf : u8.heap.size ≤ x9.heap.size := HB.size
              generalize (x9.alloc (.cells #[.int .i64 0, .int .i64 0, .slice none 0 0] 31)) = x12 at *
              clear HB hbs
              have HB := HB2
              clear HB2
              have hs19r := HB
              refine hKQ.out _ _ hs19r ?_
              clear hKQ KQ
              try simp only [Act.put, List.setIfInBounds_toArray, List.set_cons_zero, List.set_cons_succ]
              refine held_callA 6 (by rfl) (by kernel_rfl) (by rfl) (fun KQ hKQ => ?_)
              go_simp
              refine (attrParse_any x12 Ar _ cr _ byr (by omega)).mono ?_
              rintro e x13 ⟨hb, hP⟩
              rw [E3.out] at hP
              obtain ⟨XX, dd, rfl, _, _, _⟩ := hP.no
              rw [show ([] : List UInt8).length = 0 from rfl]
              clear hP byr hnr hcr
              replace HB := HB.trans (hb.mono HB.size)
              replace hx := hx.below hb hx.lt
              replace hf := hf.below hb hf.lt
              clear row hb
              have hs20r := HB
              refine hKQ.out _ _ hs20r ?_
              clear hKQ KQ
              try simp only [Act.put, List.setIfInBounds_toArray, List.set_cons_zero, List.set_cons_succ]
              (refine held_takeA 7 (by rfl) ?_ (by kernel_rfl) (fun _ _ _ h => h) hs20r ?_ ?_; rotate_left; (focus (intro wq hSw; have hrd : ∀ b o, b < u8.heap.size → wq.cell? ⟨b, o, none⟩ = u8.cell? ⟨b, o, none⟩ := (fun b o h => hSw.cell (p := ⟨b, o, none⟩) h); go_simp; try with_reducible rfl; done)); try simp only [Act.put, List.setIfInBounds_toArray, List.set_cons_zero, List.set_cons_succ])
              (refine held_takeA 8 (by rfl) ?_ (by kernel_rfl) (fun _ _ _ h => h) hs20r ?_ ?_; rotate_left; (focus (intro wq hSw; have hrd : ∀ b o, b < u8.heap.size → wq.cell? ⟨b, o, none⟩ = u8.cell? ⟨b, o, none⟩ := (fun b o h => hSw.cell (p := ⟨b, o, none⟩) h); go_simp; try with_reducible rfl; done)); try simp only [Act.put, List.setIfInBounds_toArray, List.set_cons_zero, List.set_cons_succ])
              (refine held_takeA 9 (by rfl) ?_ (by kernel_rfl) (fun _ _ _ h => h) hs20r ?_ ?_; rotate_left; (focus (intro wq hSw; have hrd : ∀ b o, b < u8.heap.size → wq.cell? ⟨b, o, none⟩ = u8.cell? ⟨b, o, none⟩ := (fun b o h => hSw.cell (p := ⟨b, o, none⟩) h); go_simp; try with_reducible rfl; done)); try simp only [Act.put, List.setIfInBounds_toArray, List.set_cons_zero, List.set_cons_succ])
              refine held_callA 12 (by rfl) (by kernel_rfl) (by rfl) (fun KQ hKQ => ?_)
              refine wp_store_blk hx 39 (.tmp 10) (.tmp 55) (by rfl) (by rfl) (by rfl) (by rfl) (by exact hi) (by simp [Value.oneCell']) ?_
              intro wy hx2 hgx
              replace hf := hf.grown hgx (blk_ne hf hx (by decide))
              replace HB := below_own HB hgx HB.size kx
              have hs21r := HB
              refine hKQ.out _ _ hs21r ?_
              clear hKQ KQ
              try simp only [Act.put]
              refine held_callA 13 (by rfl) (by kernel_rfl) (by rfl) (fun KQ hKQ => ?_)
              refine wp_store_blk hf 31 (.tmp 11) (.tmp 56) (by rfl) (by rfl) (by rfl) (by rfl) (by exact hj) (by simp [Value.oneCell']) ?_
              intro wz hf2 hgf
              replace HB := below_own HB hgf HB.size kf
              have hs22r := HB
              refine hKQ.out _ _ hs22r ?_
              clear hKQ KQ
              try simp only [Act.put]
              refine wpAnyH_done (by kernel_rfl) ?_ _
              try refine NoPanic.normal ?_
              go_wp2_with fail
              go_meet
              exact left8_mk HB hf2
          · skip
            go_simp
            have hbs : Below x3.heap.size x3 (x3.alloc (.cells #[.int .i64 0, .int .i64 0, .slice none 0 0] 31)) := ((Below.refl x3.heap.size x3).alloc (Nat.le_refl _) (.cells #[.int .i64 0, .int .i64 0, .slice none 0 0] 31))
            have HB2 : Below u8.heap.size u8 (x3.alloc (.cells #[.int .i64 0, .int .i64 0, .slice none 0 0] 31)) := HB.trans (hbs.mono HB.size)
            replace row := row.below hbs
            replace byr := byr.nx hbs
            have hf : Blk (x3.alloc (.cells #[.int .i64 0, .int .i64 0, .slice none 0 0] 31)) x3.heap.size 31 #[.int .i64 0, .int .i64 0, .slice none 0 0] := Blk.new x3 31 #[.int .i64 0, .int .i64 0, .slice none 0 0]
            have kf : u8.heap.size ≤ x3.heap.size := HB.size
            generalize (x3.alloc (.cells #[.int .i64 0, .int .i64 0, .slice none 0 0] 31)) = x14 at *
            clear HB hbs
            have HB := HB2
            clear HB2
            have hs23r := HB
            refine hKQ.out _ _ hs23r ?_
            clear hKQ KQ
            try simp only [Act.put, List.setIfInBounds_toArray, List.set_cons_zero, List.set_cons_succ]
            refine held_two 6 10 (by rfl) (by rfl) (by kernel_rfl) (by rfl) (by rfl) (fun KQ hKQ => ?_) (fun KQ hKQ => ?_)
            · skip
              go_simp
              refine (attrParse_any x14 Ar _ cr _ byr (by omega)).mono ?_
              rintro e x15 ⟨hb, hP⟩
              rw [E3.out] at hP
              obtain ⟨XX, dd, rfl, _, _, _⟩ := hP.no
              rw [show ([] : List UInt8).length = 0 from rfl]
              clear hP byr hnr hcr
              replace HB := HB.trans (hb.mono HB.size)
              replace hf := hf.below hb hf.lt
              clear row hb
              have hs24r := HB
              refine hKQ.out _ _ hs24r ?_
              clear hKQ KQ
              try simp only [Act.put, List.setIfInBounds_toArray, List.set_cons_zero, List.set_cons_succ]
              (refine held_takeA 7 (by rfl) ?_ (by kernel_rfl) (fun _ _ _ h => h) hs24r ?_ ?_; rotate_left; (focus (intro wq hSw; have hrd : ∀ b o, b < u8.heap.size → wq.cell? ⟨b, o, none⟩ = u8.cell? ⟨b, o, none⟩ := (fun b o h => hSw.cell (p := ⟨b, o, none⟩) h); go_simp; try with_reducible rfl; done)); try simp only [Act.put, List.setIfInBounds_toArray, List.set_cons_zero, List.set_cons_succ])
              (refine held_takeA 8 (by rfl) ?_ (by kernel_rfl) (fun _ _ _ h => h) hs24r ?_ ?_; rotate_left; (focus (intro wq hSw; have hrd : ∀ b o, b < u8.heap.size → wq.cell? ⟨b, o, none⟩ = u8.cell? ⟨b, o, none⟩ := (fun b o h => hSw.cell (p := ⟨b, o, none⟩) h); go_simp; try with_reducible rfl; done)); try simp only [Act.put, List.setIfInBounds_toArray, List.set_cons_zero, List.set_cons_succ])
              (refine held_takeA 9 (by rfl) ?_ (by kernel_rfl) (fun _ _ _ h => h) hs24r ?_ ?_; rotate_left; (focus (intro wq hSw; have hrd : ∀ b o, b < u8.heap.size → wq.cell? ⟨b, o, none⟩ = u8.cell? ⟨b, o, none⟩ := (fun b o h => hSw.cell (p := ⟨b, o, none⟩) h); go_simp; try with_reducible rfl; done)); try simp only [Act.put, List.setIfInBounds_toArray, List.set_cons_zero, List.set_cons_succ])
              refine held_callA 10 (by rfl) (by kernel_rfl) (by rfl) (fun KQ hKQ => ?_)
              go_simp
              have hbs : Below x15.heap.size x15 (x15.alloc (.cells #[.int .i64 0, .slice none 0 0, .int .u32 0, .int .i64 0, .bool false] 39)) := ((Below.refl x15.heap.size x15).alloc (Nat.le_refl _) (.cells #[.int .i64 0, .slice none 0 0, .int .u32 0, .int .i64 0, .bool false] 39))
              have HB2 : Below u8.heap.size u8 (x15.alloc (.cells #[.int .i64 0, .slice none 0 0, .int .u32 0, .int .i64 0, .bool false] 39)) := HB.trans (hbs.mono HB.size)
              replace hf := hf.below hbs hf.lt
              have hx : Blk (x15.alloc (.cells #[.int .i64 0, .slice none 0 0, .int .u32 0, .int .i64 0, .bool false] 39)) x15.heap.size 39 #[.int .i64 0, .slice none 0 0, .int .u32 0, .int .i64 0, .bool false] := Blk.new x15 39 #[.int .i64 0, .slice none 0 0, .int .u32 0, .int .i64 0, .bool false]
              have kx : u8.heap.size ≤ x15.heap.size := HB.size
              generalize (x15.alloc (.cells #[.int .i64 0, .slice none 0 0, .int .u32 0, .int .i64 0, .bool false] 39)) = x16 at *
              clear HB hbs
              have HB := HB2
              clear HB2
              have hs25r := HB
              refine hKQ.out _ _ hs25r ?_
              clear hKQ KQ
              try simp only [Act.put, List.setIfInBounds_toArray, List.set_cons_zero, List.set_cons_succ]
              refine held_callA 12 (by rfl) (by kernel_rfl) (by rfl) (fun KQ hKQ => ?_)
              refine wp_store_blk hx 39 (.tmp 10) (.tmp 55) (by rfl) (by rfl) (by rfl) (by rfl) (by exact hi) (by simp [Value.oneCell']) ?_
              intro wy hx2 hgx
              replace hf := hf.grown hgx (blk_ne hf hx (by decide))
              replace HB := below_own HB hgx HB.size kx
              have hs26r := HB
              refine hKQ.out _ _ hs26r ?_
              clear hKQ KQ
              try simp only [Act.put]
              refine held_callA 13 (by rfl) (by kernel_rfl) (by rfl) (fun KQ hKQ => ?_)
              refine wp_store_blk hf 31 (.tmp 11) (.tmp 56) (by rfl) (by rfl) (by rfl) (by rfl) (by exact hj) (by simp [Value.oneCell']) ?_
              intro wz hf2 hgf
              replace HB := below_own HB hgf HB.size kf
              have hs27r := HB
              refine hKQ.out _ _ hs27r ?_
              clear hKQ KQ
              try simp only [Act.put]
              refine wpAnyH_done (by kernel_rfl) ?_ _
              try refine NoPanic.normal ?_
              go_wp2_with fail
              go_meet
              exact left8_mk HB hf2
            · skip
              go_simp
              have hbs : Below x14.heap.size x14 (x14.alloc (.cells #[.int .i64 0, .slice none 0 0, .int .u32 0, .int .i64 0, .bool false] 39)) := ((Below.refl x14.heap.size x14).alloc (Nat.le_refl _) (.cells #[.int .i64 0, .slice none 0 0, .int .u32 0, .int .i64 0, .bool false] 39))
              have HB2 : Below u8.heap.size u8 (x14.alloc (.cells #[.int .i64 0, .slice none 0 0, .int .u32 0, .int .i64 0, .bool false] 39)) := HB.trans (hbs.mono HB.size)
              replace hf := hf.below hbs hf.lt
              replace row := row.below hbs
              replace byr := byr.nx hbs
              have hx : Blk (x14.alloc (.cells #[.int .i64 0, .slice none 0 0, .int .u32 0, .int .i64 0, .bool false] 39)) x14.heap.size 39 #[.int .i64 0, .slice none 0 0, .int .u32 0, .int .i64 0, .bool false] := Blk.new x14 39 #[.int .i64 0, .slice none 0 0, .int .u32 0, .int .i64 0, .bool false]
              have kx : u8.heap.size ≤ x14.heap.size := HB.size
              generalize (x14.alloc (.cells #[.int .i64 0, .slice none 0 0, .int .u32 0, .int .i64 0, .bool false] 39)) = x17 at *
              clear HB hbs
              have HB := HB2
              clear HB2
              have hs28r := HB
              refine hKQ.out _ _ hs28r ?_
              clear hKQ KQ
              try simp only [Act.put, List.setIfInBounds_toArray, List.set_cons_zero, List.set_cons_succ]
              refine held_callA 6 (by rfl) (by kernel_rfl) (by rfl) (fun KQ hKQ => ?_)
              go_simp
              refine (attrParse_any x17 Ar _ cr _ byr (by omega)).mono ?_
              rintro e x18 ⟨hb, hP⟩
              rw [E3.out] at hP
              obtain ⟨XX, dd, rfl, _, _, _⟩ := hP.no
              rw [show ([] : List UInt8).length = 0 from rfl]
              clear hP byr hnr hcr
              replace HB := HB.trans (hb.mono HB.size)
              replace hx := hx.below hb hx.lt
              replace hf := hf.below hb hf.lt
              clear row hb
              have hs29r := HB
              refine hKQ.out _ _ hs29r ?_
              clear hKQ KQ
              try simp only [Act.put, List.setIfInBounds_toArray, List.set_cons_zero, List.set_cons_succ]
              (refine held_takeA 7 (by rfl) ?_ (by kernel_rfl) (fun _ _ _ h => h) hs29r ?_ ?_; rotate_left; (focus (intro wq hSw; have hrd : ∀ b o, b < u8.heap.size → wq.cell? ⟨b, o, none⟩ = u8.cell? ⟨b, o, none⟩ := (fun b o h => hSw.cell (p := ⟨b, o, none⟩) h); go_simp; try with_reducible rfl; done)); try simp only [Act.put, List.setIfInBounds_toArray, List.set_cons_zero, List.set_cons_succ])
              (refine held_takeA 8 (by rfl) ?_ (by kernel_rfl) (fun _ _ _ h => h) hs29r ?_ ?_; rotate_left; (focus (intro wq hSw; have hrd : ∀ b o, b < u8.heap.size → wq.cell? ⟨b, o, none⟩ = u8.cell? ⟨b, o, none⟩ := (fun b o h => hSw.cell (p := ⟨b, o, none⟩) h); go_simp; try with_reducible rfl; done)); try simp only [Act.put, List.setIfInBounds_toArray, List.set_cons_zero, List.set_cons_succ])
              (refine held_takeA 9 (by rfl) ?_ (by kernel_rfl) (fun _ _ _ h => h) hs29r ?_ ?_; rotate_left; (focus (intro wq hSw; have hrd : ∀ b o, b < u8.heap.size → wq.cell? ⟨b, o, none⟩ = u8.cell? ⟨b, o, none⟩ := (fun b o h => hSw.cell (p := ⟨b, o, none⟩) h); go_simp; try with_reducible rfl; done)); try simp only [Act.put, List.setIfInBounds_toArray, List.set_cons_zero, List.set_cons_succ])
              refine held_callA 12 (by rfl) (by kernel_rfl) (by rfl) (fun KQ hKQ => ?_)
              refine wp_store_blk hx 39 (.tmp 10) (.tmp 55) (by rfl) (by rfl) (by rfl) (by rfl) (by exact hi) (by simp [Value.oneCell']) ?_
              intro wy hx2 hgx
              replace hf := hf.grown hgx (blk_ne hf hx (by decide))
              replace HB := below_own HB hgx HB.size kx
              have hs30r := HB
              refine hKQ.out _ _ hs30r ?_
              clear hKQ KQ
              try simp only [Act.put]
              refine held_callA 13 (by rfl) (by kernel_rfl) (by rfl) (fun KQ hKQ => ?_)
              refine wp_store_blk hf 31 (.tmp 11) (.tmp 56) (by rfl) (by rfl) (by rfl) (by rfl) (by exact hj) (by simp [Value.oneCell']) ?_
              intro wz hf2 hgf
              replace HB := below_own HB hgf HB.size kf
              have hs31r := HB
              refine hKQ.out _ _ hs31r ?_
              clear hKQ KQ
              try simp only [Act.put]
              refine wpAnyH_done (by kernel_rfl) ?_ _
              try refine NoPanic.normal ?_
              go_wp2_with fail
              go_meet
              exact left8_mk HB hf2
        · skip
          go_simp
          have hbs : Below x2.heap.size x2 (x2.alloc (.cells #[.int .i64 0, .slice none 0 0, .int .u32 0, .int .i64 0, .bool false] 39)) := ((Below.refl x2.heap.size x2).alloc (Nat.le_refl _) (.cells #[.int .i64 0, .slice none 0 0, .int .u32 0, .int .i64 0, .bool false] 39))
          have HB2 : Below u8.heap.size u8 (x2.alloc (.cells #[.int .i64 0, .slice none 0 0, .int .u32 0, .int .i64 0, .bool false] 39)) := HB.trans (hbs.mono HB.size)
          replace row := row.below hbs
          have hx : Blk (x2.alloc (.cells #[.int .i64 0, .slice none 0 0, .int .u32 0, .int .i64 0, .bool false] 39)) x2.heap.size 39 #[.int .i64 0, .slice none 0 0, .int .u32 0, .int .i64 0, .bool false] := Blk.new x2 39 #[.int .i64 0, .slice none 0 0, .int .u32 0, .int .i64 0, .bool false]
          have kx : u8.heap.size ≤ x2.heap.size := HB.size
          generalize (x2.alloc (.cells #[.int .i64 0, .slice none 0 0, .int .u32 0, .int .i64 0, .bool false] 39)) = x19 at *
          clear HB hbs
          have HB := HB2
          clear HB2
          have hs32r := HB
          refine hKQ.out _ _ hs32r ?_
          clear hKQ KQ
          try simp only [Act.put, List.setIfInBounds_toArray, List.set_cons_zero, List.set_cons_succ]
          refine held_two 5 11 (by rfl) (by rfl) (by kernel_rfl) (by rfl) (by rfl) (fun KQ hKQ => ?_) (fun KQ hKQ => ?_)
          · skip
            refine wp_app _ (.tmp 50) (.tmp 52) (by rfl) u8.heap.size _ _ _ (by rfl) row _ A4 4 c1 _ (by rfl) (by4.nx HB) (by omega) HB.size ?_
            intro vr x20 row2 hgr hdr
            clear hdr
            have hba := row.below_app hgr HB.size
            replace HB := HB.trans hba
            replace hx := hx.grown hgr (own_ne row hx (by decide))
            clear row hba hgr
            have row := row2
            clear row2
            obtain ⟨Ar, cr, rfl, hnr, hcr, byr, _⟩ := row.any2
            have hs33r := HB
            refine hKQ.out _ _ hs33r ?_
            clear hKQ KQ
            try simp only [Act.put, List.setIfInBounds_toArray, List.set_cons_zero, List.set_cons_succ]
            refine held_two 6 11 (by rfl) (by rfl) (by kernel_rfl) (by rfl) (by rfl) (fun KQ hKQ => ?_) (fun KQ hKQ => ?_)
            · skip
              go_simp
              refine (attrParse_any x20 Ar _ cr _ byr (by omega)).mono ?_
              rintro e x21 ⟨hb, hP⟩
              rw [E3.out] at hP
              obtain ⟨XX, dd, rfl, _, _, _⟩ := hP.no
              rw [show ([] : List UInt8).length = 0 from rfl]
              clear hP byr hnr hcr
              replace HB := HB.trans (hb.mono HB.size)
              replace hx := hx.below hb hx.lt
              clear row hb
              have hs34r := HB
              refine hKQ.out _ _ hs34r ?_
              clear hKQ KQ
              try simp only [Act.put, List.setIfInBounds_toArray, List.set_cons_zero, List.set_cons_succ]
              (refine held_takeA 7 (by rfl) ?_ (by kernel_rfl) (fun _ _ _ h => h) hs34r ?_ ?_; rotate_left; (focus (intro wq hSw; have hrd : ∀ b o, b < u8.heap.size → wq.cell? ⟨b, o, none⟩ = u8.cell? ⟨b, o, none⟩ := (fun b o h => hSw.cell (p := ⟨b, o, none⟩) h); go_simp; try with_reducible rfl; done)); try simp only [Act.put, List.setIfInBounds_toArray, List.set_cons_zero, List.set_cons_succ])
              (refine held_takeA 8 (by rfl) ?_ (by kernel_rfl) (fun _ _ _ h => h) hs34r ?_ ?_; rotate_left; (focus (intro wq hSw; have hrd : ∀ b o, b < u8.heap.size → wq.cell? ⟨b, o, none⟩ = u8.cell? ⟨b, o, none⟩ := (fun b o h => hSw.cell (p := ⟨b, o, none⟩) h); go_simp; try with_reducible rfl; done)); try simp only [Act.put, List.setIfInBounds_toArray, List.set_cons_zero, List.set_cons_succ])
              (refine held_takeA 9 (by rfl) ?_ (by kernel_rfl) (fun _ _ _ h => h) hs34r ?_ ?_; rotate_left; (focus (intro wq hSw; have hrd : ∀ b o, b < u8.heap.size → wq.cell? ⟨b, o, none⟩ = u8.cell? ⟨b, o, none⟩ := (fun b o h => hSw.cell (p := ⟨b, o, none⟩) h); go_simp; try with_reducible rfl; done)); try simp only [Act.put, List.setIfInBounds_toArray, List.set_cons_zero, List.set_cons_succ])
              refine held_callA 11 (by rfl) (by kernel_rfl) (by rfl) (fun KQ hKQ => ?_)
              go_simp
              have hbs : Below x21.heap.size x21 (x21.alloc (.cells #[.int .i64 0, .int .i64 0, .slice none 0 0] 31)) := ((Below.refl x21.heap.size x21).alloc (Nat.le_refl _) (.cells #[.int .i64 0, .int .i64 0, .slice none 0 0] 31))
              have HB2 : Below u8.heap.size u8 (x21.alloc (.cells #[.int .i64 0, .int .i64 0, .slice none 0 0] 31)) := HB.trans (hbs.mono HB.size)
              replace hx := hx.below hbs hx.lt
              have hf : Blk (x21.alloc (.cells #[.int .i64 0, .int .i64 0, .slice none 0 0] 31)) x21.heap.size 31 #[.int .i64 0, .int .i64 0, .slice none 0 0] := Blk.new x21 31 #[.int .i64 0, .int .i64 0, .slice none 0 0]
              have kf : u8.heap.size ≤ x21.heap.size := HB.size
              generalize (x21.alloc (.cells #[.int .i64 0, .int .i64 0, .slice none 0 0] 31)) = x22 at *
              clear HB hbs
              have HB := HB2
              clear HB2
              have hs35r := HB
              refine hKQ.out _ _ hs35r ?_
              clear hKQ KQ
              try simp only [Act.put, List.setIfInBounds_toArray, List.set_cons_zero, List.set_cons_succ]
              refine held_callA 12 (by rfl) (by kernel_rfl) (by rfl) (fun KQ hKQ => ?_)
              refine wp_store_blk hx 39 (.tmp 10) (.tmp 55) (by rfl) (by rfl) (by rfl) (by rfl) (by exact hi) (by simp [Value.oneCell']) ?_
              intro wy hx2 hgx
              replace hf := hf.grown hgx (blk_ne hf hx (by decide))
              replace HB := below_own HB hgx HB.size kx
              have hs36r := HB
              refine hKQ.out _ _ hs36r ?_
              clear hKQ KQ
              try simp only [Act.put]
              refine held_callA 13 (by rfl) (by kernel_rfl) (by rfl) (fun KQ hKQ => ?_)
              refine wp_store_blk hf 31 (.tmp 11) (.tmp 56) (by rfl) (by rfl) (by rfl) (by rfl) (by exact hj) (by simp [Value.oneCell']) ?_
              intro wz hf2 hgf
              replace HB := below_own HB hgf HB.size kf
              have hs37r := HB
              refine hKQ.out _ _ hs37r ?_
              clear hKQ KQ
              try simp only [Act.put]
              refine wpAnyH_done (by kernel_rfl) ?_ _
              try refine NoPanic.normal ?_
              go_wp2_with fail
              go_meet
              exact left8_mk HB hf2
            · skip
              go_simp
              have hbs : Below x20.heap.size x20 (x20.alloc (.cells #[.int .i64 0, .int .i64 0, .slice none 0 0] 31)) := ((Below.refl x20.heap.size x20).alloc (Nat.le_refl _) (.cells #[.int .i64 0, .int .i64 0, .slice none 0 0] 31))
              have HB2 : Below u8.heap.size u8 (x20.alloc (.cells #[.int .i64 0, .int .i64 0, .slice none 0 0] 31)) := HB.trans (hbs.mono HB.size)
              replace hx := hx.below hbs hx.lt
              replace row := row.below hbs
              replace byr := byr.nx hbs
              have hf : Blk (x20.alloc (.cells #[.int .i64 0, .int .i64 0, .slice none 0 0] 31)) x20.heap.size 31 #[.int .i64 0, .int .i64 0, .slice none 0 0] := Blk.new x20 31 #[.int .i64 0, .int .i64 0, .slice none 0 0]
              have kf : u8.heap.size ≤ x20.heap.size := HB.size
              generalize (x20.alloc (.cells #[.int .i64 0, .int .i64 0, .slice none 0 0] 31)) = x23 at *
              clear HB hbs
              have HB := HB2
              clear HB2
              have hs38r := HB
              refine hKQ.out _ _ hs38r ?_
              clear hKQ KQ
              try simp only [Act.put, List.setIfInBounds_toArray, List.set_cons_zero, List.set_cons_succ]
              refine held_callA 6 (by rfl) (by kernel_rfl) (by rfl) (fun KQ hKQ => ?_)
              go_simp
              refine (attrParse_any x23 Ar _ cr _ byr (by omega)).mono ?_
              rintro e x24 ⟨hb, hP⟩
              rw [E3.out] at hP
              obtain ⟨XX, dd, rfl, _, _, _⟩ := hP.no
              rw [show ([] : List UInt8).length = 0 from rfl]
              clear hP byr hnr hcr
              replace HB := HB.trans (hb.mono HB.size)
              replace hx := hx.below hb hx.lt
              replace hf := hf.below hb hf.lt
              clear row hb
              have hs39r := HB
              refine hKQ.out _ _ hs39r ?_
              clear hKQ KQ
              try simp only [Act.put, List.setIfInBounds_toArray, List.set_cons_zero, List.set_cons_succ]
              (refine held_takeA 7 (by rfl) ?_ (by kernel_rfl) (fun _ _ _ h => h) hs39r ?_ ?_; rotate_left; (focus (intro wq hSw; have hrd : ∀ b o, b < u8.heap.size → wq.cell? ⟨b, o, none⟩ = u8.cell? ⟨b, o, none⟩ := (fun b o h => hSw.cell (p := ⟨b, o, none⟩) h); go_simp; try with_reducible rfl; done)); try simp only [Act.put, List.setIfInBounds_toArray, List.set_cons_zero, List.set_cons_succ])
              (refine held_takeA 8 (by rfl) ?_ (by kernel_rfl) (fun _ _ _ h => h) hs39r ?_ ?_; rotate_left; (focus (intro wq hSw; have hrd : ∀ b o, b < u8.heap.size → wq.cell? ⟨b, o, none⟩ = u8.cell? ⟨b, o, none⟩ := (fun b o h => hSw.cell (p := ⟨b, o, none⟩) h); go_simp; try with_reducible rfl; done)); try simp only [Act.put, List.setIfInBounds_toArray, List.set_cons_zero, List.set_cons_succ])
              (refine held_takeA 9 (by rfl) ?_ (by kernel_rfl) (fun _ _ _ h => h) hs39r ?_ ?_; rotate_left; (focus (intro wq hSw; have hrd : ∀ b o, b < u8.heap.size → wq.cell? ⟨b, o, none⟩ = u8.cell? ⟨b, o, none⟩ := (fun b o h => hSw.cell (p := ⟨b, o, none⟩) h); go_simp; try with_reducible rfl; done)); try simp only [Act.put, List.setIfInBounds_toArray, List.set_cons_zero, List.set_cons_succ])
              refine held_callA 12 (by rfl) (by kernel_rfl) (by rfl) (fun KQ hKQ => ?_)
              refine wp_store_blk hx 39 (.tmp 10) (.tmp 55) (by rfl) (by rfl) (by rfl) (by rfl) (by exact hi) (by simp [Value.oneCell']) ?_
              intro wy hx2 hgx
              replace hf := hf.grown hgx (blk_ne hf hx (by decide))
              replace HB := below_own HB hgx HB.size kx
              have hs40r := HB
              refine hKQ.out _ _ hs40r ?_
              clear hKQ KQ
              try simp only [Act.put]
              refine held_callA 13 (by rfl) (by kernel_rfl) (by rfl) (fun KQ hKQ => ?_)
              refine wp_store_blk hf 31 (.tmp 11) (.tmp 56) (by rfl) (by rfl) (by rfl) (by rfl) (by exact hj) (by simp [Value.oneCell']) ?_
              intro wz hf2 hgf
              replace HB := below_own HB hgf HB.size kf
              have hs41r := HB
              refine hKQ.out _ _ hs41r ?_
              clear hKQ KQ
              try simp only [Act.put]
              refine wpAnyH_done (by kernel_rfl) ?_ _
              try refine NoPanic.normal ?_
              go_wp2_with fail
              go_meet
              exact left8_mk HB hf2
          · skip
            go_simp
            have hbs : Below x19.heap.size x19 (x19.alloc (.cells #[.int .i64 0, .int .i64 0, .slice none 0 0] 31)) := ((Below.refl x19.heap.size x19).alloc (Nat.le_refl _) (.cells #[.int .i64 0, .int .i64 0, .slice none 0 0] 31))
            have HB2 : Below u8.heap.size u8 (x19.alloc (.cells #[.int .i64 0, .int .i64 0, .slice none 0 0] 31)) := HB.trans (hbs.mono HB.size)
            replace hx := hx.below hbs hx.lt
            replace row := row.below hbs
            have hf : Blk (x19.alloc (.cells #[.int .i64 0, .int .i64 0, .slice none 0 0] 31)) x19.heap.size 31 #[.int .i64 0, .int .i64 0, .slice none 0 0] := Blk.new x19 31 #[.int .i64 0, .int .i64 0, .slice none 0 0]
            have kf : u8.heap.size ≤ x19.heap.size := HB.size
            generalize (x19.alloc (.cells #[.int .i64 0, .int .i64 0, .slice none 0 0] 31)) = x25 at *
            clear HB hbs
            have HB := HB2
            clear HB2
            have hs42r := HB
            refine hKQ.out _ _ hs42r ?_
            clear hKQ KQ
            try simp only [Act.put, List.setIfInBounds_toArray, List.set_cons_zero, List.set_cons_succ]
            refine held_callA 5 (by rfl) (by kernel_rfl) (by rfl) (fun KQ hKQ => ?_)
            refine wp_app _ (.tmp 50) (.tmp 52) (by rfl) u8.heap.size _ _ _ (by rfl) row _ A4 4 c1 _ (by rfl) (by4.nx HB) (by omega) HB.size ?_
            intro vr x26 row2 hgr hdr
            clear hdr
            have hba := row.below_app hgr HB.size
            replace HB := HB.trans hba
            replace hx := hx.grown hgr (own_ne row hx (by decide))
            replace hf := hf.grown hgr (own_ne row hf (by decide))
            clear row hba hgr
            have row := row2
            clear row2
            obtain ⟨Ar, cr, rfl, hnr, hcr, byr, _⟩ := row.any2
            have hs43r := HB
            refine hKQ.out _ _ hs43r ?_
            clear hKQ KQ
            try simp only [Act.put, List.setIfInBounds_toArray, List.set_cons_zero, List.set_cons_succ]
            refine held_callA 6 (by rfl) (by kernel_rfl) (by rfl) (fun KQ hKQ => ?_)
            go_simp
            refine (attrParse_any x26 Ar _ cr _ byr (by omega)).mono ?_
            rintro e x27 ⟨hb, hP⟩
            rw [E3.out] at hP
            obtain ⟨XX, dd, rfl, _, _, _⟩ := hP.no
            rw [show ([] : List UInt8).length = 0 from rfl]
            clear hP byr hnr hcr
            replace HB := HB.trans (hb.mono HB.size)
            replace hx := hx.below hb hx.lt
            replace hf := hf.below hb hf.lt
            clear row hb
            have hs44r := HB
            refine hKQ.out _ _ hs44r ?_
            clear hKQ KQ
            try simp only [Act.put, List.setIfInBounds_toArray, List.set_cons_zero, List.set_cons_succ]
            (refine held_takeA 7 (by rfl) ?_ (by kernel_rfl) (fun _ _ _ h => h) hs44r ?_ ?_; rotate_left; (focus (intro wq hSw; have hrd : ∀ b o, b < u8.heap.size → wq.cell? ⟨b, o, none⟩ = u8.cell? ⟨b, o, none⟩ := (fun b o h => hSw.cell (p := ⟨b, o, none⟩) h); go_simp; try with_reducible rfl; done)); try simp only [Act.put, List.setIfInBounds_toArray, List.set_cons_zero, List.set_cons_succ])
            (refine held_takeA 8 (by rfl) ?_ (by kernel_rfl) (fun _ _ _ h => h) hs44r ?_ ?_; rotate_left; (focus (intro wq hSw; have hrd : ∀ b o, b < u8.heap.size → wq.cell? ⟨b, o, none⟩ = u8.cell? ⟨b, o, none⟩ := (fun b o h => hSw.cell (p := ⟨b, o, none⟩) h); go_simp; try with_reducible rfl; done)); try simp only [Act.put, List.setIfInBounds_toArray, List.set_cons_zero, List.set_cons_succ])
            (refine held_takeA 9 (by rfl) ?_ (by kernel_rfl) (fun _ _ _ h => h) hs44r ?_ ?_; rotate_left; (focus (intro wq hSw; have hrd : ∀ b o, b < u8.heap.size → wq.cell? ⟨b, o, none⟩ = u8.cell? ⟨b, o, none⟩ := (fun b o h => hSw.cell (p := ⟨b, o, none⟩) h); go_simp; try with_reducible rfl; done)); try simp only [Act.put, List.setIfInBounds_toArray, List.set_cons_zero, List.set_cons_succ])
            refine held_callA 12 (by rfl) (by kernel_rfl) (by rfl) (fun KQ hKQ => ?_)
            refine wp_store_blk hx 39 (.tmp 10) (.tmp 55) (by rfl) (by rfl) (by rfl) (by rfl) (by exact hi) (by simp [Value.oneCell']) ?_
            intro wy hx2 hgx
            replace hf := hf.grown hgx (blk_ne hf hx (by decide))
            replace HB := below_own HB hgx HB.size kx
            have hs45r := HB
            refine hKQ.out _ _ hs45r ?_
            clear hKQ KQ
            try simp only [Act.put]
            refine held_callA 13 (by rfl) (by kernel_rfl) (by rfl) (fun KQ hKQ => ?_)
            refine wp_store_blk hf 31 (.tmp 11) (.tmp 56) (by rfl) (by rfl) (by rfl) (by rfl) (by exact hj) (by simp [Value.oneCell']) ?_
            intro wz hf2 hgf
            replace HB := below_own HB hgf HB.size kf
            have hs46r := HB
            refine hKQ.out _ _ hs46r ?_
            clear hKQ KQ
            try simp only [Act.put]
            refine wpAnyH_done (by kernel_rfl) ?_ _
            try refine NoPanic.normal ?_
            go_wp2_with fail
            go_meet
            exact left8_mk HB hf2
        · skip
          go_simp
          have hbs : Below x2.heap.size x2 (x2.alloc (.cells #[.int .i64 0, .int .i64 0, .slice none 0 0] 31)) := ((Below.refl x2.heap.size x2).alloc (Nat.le_refl _) (.cells #[.int .i64 0, .int .i64 0, .slice none 0 0] 31))
          have HB2 : Below u8.heap.size u8 (x2.alloc (.cells #[.int .i64 0, .int .i64 0, .slice none 0 0] 31)) := HB.trans (hbs.mono HB.size)
          replace row := row.below hbs
          have hf : Blk (x2.alloc (.cells #[.int .i64 0, .int .i64 0, .slice none 0 0] 31)) x2.heap.size 31 #[.int .i64 0, .int .i64 0, .slice none 0 0] := Blk.new x2 31 #[.int .i64 0, .int .i64 0, .slice none 0 0]
          have kf : u8.heap.size ≤ x2.heap.size := HB.size
          generalize (x2.alloc (.cells #[.int .i64 0, .int .i64 0, .slice none 0 0] 31)) = x28 at *
          clear HB hbs
          have HB := HB2
          clear HB2
          have hs47r := HB
          refine hKQ.out _ _ hs47r ?_
          clear hKQ KQ
          try simp only [Act.put, List.setIfInBounds_toArray, List.set_cons_zero, List.set_cons_succ]
          refine held_two 5 10 (by rfl) (by rfl) (by kernel_rfl) (by rfl) (by rfl) (fun KQ hKQ => ?_) (fun KQ hKQ => ?_)
          · skip
            refine wp_app _ (.tmp 50) (.tmp 52) (by rfl) u8.heap.size _ _ _ (by rfl) row _ A4 4 c1 _ (by rfl) (by4.nx HB) (by omega) HB.size ?_
            intro vr x29 row2 hgr hdr
            clear hdr
            have hba := row.below_app hgr HB.size
            replace HB := HB.trans hba
            replace hf := hf.grown hgr (own_ne row hf (by decide))
            clear row hba hgr
            have row := row2
            clear row2
            obtain ⟨Ar, cr, rfl, hnr, hcr, byr, _⟩ := row.any2
            have hs48r := HB
            refine hKQ.out _ _ hs48r ?_
            clear hKQ KQ
            try simp only [Act.put, List.setIfInBounds_toArray, List.set_cons_zero, List.set_cons_succ]
            refine held_two 6 10 (by rfl) (by rfl) (by kernel_rfl) (by rfl) (by rfl) (fun KQ hKQ => ?_) (fun KQ hKQ => ?_)
            · skip
              go_simp
              refine (attrParse_any x29 Ar _ cr _ byr (by omega)).mono ?_
              rintro e x30 ⟨hb, hP⟩
              rw [E3.out] at hP
              obtain ⟨XX, dd, rfl, _, _, _⟩ := hP.no
              rw [show ([] : List UInt8).length = 0 from rfl]
              clear hP byr hnr hcr
              replace HB := HB.trans (hb.mono HB.size)
              replace hf := hf.below hb hf.lt
              clear row hb
              have hs49r := HB
              refine hKQ.out _ _ hs49r ?_
              clear hKQ KQ
              try simp only [Act.put, List.setIfInBounds_toArray, List.set_cons_zero, List.set_cons_succ]
              (refine held_takeA 7 (by rfl) ?_ (by kernel_rfl) (fun _ _ _ h => h) hs49r ?_ ?_; rotate_left; (focus (intro wq hSw; have hrd : ∀ b o, b < u8.heap.size → wq.cell? ⟨b, o, none⟩ = u8.cell? ⟨b, o, none⟩ := (fun b o h => hSw.cell (p := ⟨b, o, none⟩) h); go_simp; try with_reducible rfl; done)); try simp only [Act.put, List.setIfInBounds_toArray, List.set_cons_zero, List.set_cons_succ])
              (refine held_takeA 8 (by rfl) ?_ (by kernel_rfl) (fun _ _ _ h => h) hs49r ?_ ?_; rotate_left; (focus (intro wq hSw; have hrd : ∀ b o, b < u8.heap.size → wq.cell? ⟨b, o, none⟩ = u8.cell? ⟨b, o, none⟩ := (fun b o h => hSw.cell (p := ⟨b, o, none⟩) h); go_simp; try with_reducible rfl; done)); try simp only [Act.put, List.setIfInBounds_toArray, List.set_cons_zero, List.set_cons_succ])
              (refine held_takeA 9 (by rfl) ?_ (by kernel_rfl) (fun _ _ _ h => h) hs49r ?_ ?_; rotate_left; (focus (intro wq hSw; have hrd : ∀ b o, b < u8.heap.size → wq.cell? ⟨b, o, none⟩ = u8.cell? ⟨b, o, none⟩ := (fun b o h => hSw.cell (p := ⟨b, o, none⟩) h); go_simp; try with_reducible rfl; done)); try simp only [Act.put, List.setIfInBounds_toArray, List.set_cons_zero, List.set_cons_succ])
              refine held_callA 10 (by rfl) (by kernel_rfl) (by rfl) (fun KQ hKQ => ?_)
              go_simp
              have hbs : Below x30.heap.size x30 (x30.alloc (.cells #[.int .i64 0, .slice none 0 0, .int .u32 0, .int .i64 0, .bool false] 39)) := ((Below.refl x30.heap.size x30).alloc (Nat.le_refl _) (.cells #[.int .i64 0, .slice none 0 0, .int .u32 0, .int .i64 0, .bool false] 39))
              have HB2 : Below u8.heap.size u8 (x30.alloc (.cells #[.int .i64 0, .slice none 0 0, .int .u32 0, .int .i64 0, .bool false] 39)) := HB.trans (hbs.mono HB.size)
              replace hf := hf.below hbs hf.lt
              have hx : Blk (x30.alloc (.cells #[.int .i64 0, .slice none 0 0, .int .u32 0, .int .i64 0, .bool false] 39)) x30.heap.size 39 #[.int .i64 0, .slice none 0 0, .int .u32 0, .int .i64 0, .bool false] := Blk.new x30 39 #[.int .i64 0, .slice none 0 0, .int .u32 0, .int .i64 0, .bool false]
              have kx : u8.heap.size ≤ x30.heap.size := HB.size
              generalize (x30.alloc (.cells #[.int .i64 0, .slice none 0 0, .int .u32 0, .int .i64 0, .bool false] 39)) = x31 at *
              clear HB hbs
              have HB := HB2
              clear HB2
              have hs50r := HB
              refine hKQ.out _ _ hs50r ?_
              clear hKQ KQ
              try simp only [Act.put, List.setIfInBounds_toArray, List.set_cons_zero, List.set_cons_succ]
              refine held_callA 12 (by rfl) (by kernel_rfl) (by rfl) (fun KQ hKQ => ?_)
              refine wp_store_blk hx 39 (.tmp 10) (.tmp 55) (by rfl) (by rfl) (by rfl) (by rfl) (by exact hi) (by simp [Value.oneCell']) ?_
              intro wy hx2 hgx
              replace hf := hf.grown hgx (blk_ne hf hx (by decide))
              replace HB := below_own HB hgx HB.size kx
              have hs51r := HB
              refine hKQ.out _ _ hs51r ?_
              clear hKQ KQ
              try simp only [Act.put]
              refine held_callA 13 (by rfl) (by kernel_rfl) (by rfl) (fun KQ hKQ => ?_)
              refine wp_store_blk hf 31 (.tmp 11) (.tmp 56) (by rfl) (by rfl) (by rfl) (by rfl) (by exact hj) (by simp [Value.oneCell']) ?_
              intro wz hf2 hgf
              replace HB := below_own HB hgf HB.size kf
              have hs52r := HB
              refine hKQ.out _ _ hs52r ?_
              clear hKQ KQ
              try simp only [Act.put]
              refine wpAnyH_done (by kernel_rfl) ?_ _
              try refine NoPanic.normal ?_
              go_wp2_with fail
              go_meet
              exact left8_mk HB hf2
            · skip
              go_simp
              have hbs : Below x29.heap.size x29 (x29.alloc (.cells #[.int .i64 0, .slice none 0 0, .int .u32 0, .int .i64 0, .bool false] 39)) := ((Below.refl x29.heap.size x29).alloc (Nat.le_refl _) (.cells #[.int .i64 0, .slice none 0 0, .int .u32 0, .int .i64 0, .bool false] 39))
              have HB2 : Below u8.heap.size u8 (x29.alloc (.cells #[.int .i64 0, .slice none 0 0, .int .u32 0, .int .i64 0, .bool false] 39)) := HB.trans (hbs.mono HB.size)
              replace hf := hf.below hbs hf.lt
              replace row := row.below hbs
              replace byr := byr.nx hbs
              have hx : Blk (x29.alloc (.cells #[.int .i64 0, .slice none 0 0, .int .u32 0, .int .i64 0, .bool false] 39)) x29.heap.size 39 #[.int .i64 0, .slice none 0 0, .int .u32 0, .int .i64 0, .bool false] := Blk.new x29 39 #[.int .i64 0, .slice none 0 0, .int .u32 0, .int .i64 0, .bool false]
              have kx : u8.heap.size ≤ x29.heap.size := HB.size
              generalize (x29.alloc (.cells #[.int .i64 0, .slice none 0 0, .int .u32 0, .int .i64 0, .bool false] 39)) = x32 at *
              clear HB hbs
              have HB := HB2
              clear HB2
              have hs53r := HB
              refine hKQ.out _ _ hs53r ?_
              clear hKQ KQ
              try simp only [Act.put, List.setIfInBounds_toArray, List.set_cons_zero, List.set_cons_succ]
              refine held_callA 6 (by rfl) (by kernel_rfl) (by rfl) (fun KQ hKQ => ?_)
              go_simp
              refine (attrParse_any x32 Ar _ cr _ byr (by omega)).mono ?_
              rintro e x33 ⟨hb, hP⟩
              rw [E3.out] at hP
              obtain ⟨XX, dd, rfl, _, _, _⟩ := hP.no
              rw [show ([] : List UInt8).length = 0 from rfl]
              clear hP byr hnr hcr
              replace HB := HB.trans (hb.mono HB.size)
              replace hx := hx.below hb hx.lt
              replace hf := hf.below hb hf.lt
              clear row hb
              have hs54r := HB
              refine hKQ.out _ _ hs54r ?_
              clear hKQ KQ
              try simp only [Act.put, List.setIfInBounds_toArray, List.set_cons_zero, List.set_cons_succ]
              (refine held_takeA 7 (by rfl) ?_ (by kernel_rfl) (fun _ _ _ h => h) hs54r ?_ ?_; rotate_left; (focus (intro wq hSw; have hrd : ∀ b o, b < u8.heap.size → wq.cell? ⟨b, o, none⟩ = u8.cell? ⟨b, o, none⟩ := (fun b o h => hSw.cell (p := ⟨b, o, none⟩) h); go_simp; try with_reducible rfl; done)); try simp only [Act.put, List.setIfInBounds_toArray, List.set_cons_zero, List.set_cons_succ])
              (refine held_takeA 8 (by rfl) ?_ (by kernel_rfl) (fun _ _ _ h => h) hs54r ?_ ?_; rotate_left; (focus (intro wq hSw; have hrd : ∀ b o, b < u8.heap.size → wq.cell? ⟨b, o, none⟩ = u8.cell? ⟨b, o, none⟩ := (fun b o h => hSw.cell (p := ⟨b, o, none⟩) h); go_simp; try with_reducible rfl; done)); try simp only [Act.put, List.setIfInBounds_toArray, List.set_cons_zero, List.set_cons_succ])
              (refine held_takeA 9 (by rfl) ?_ (by kernel_rfl) (fun _ _ _ h => h) hs54r ?_ ?_; rotate_left; (focus (intro wq hSw; have hrd : ∀ b o, b < u8.heap.size → wq.cell? ⟨b, o, none⟩ = u8.cell? ⟨b, o, none⟩ := (fun b o h => hSw.cell (p := ⟨b, o, none⟩) h); go_simp; try with_reducible rfl; done)); try simp only [Act.put, List.setIfInBounds_toArray, List.set_cons_zero, List.set_cons_succ])
              refine held_callA 12 (by rfl) (by kernel_rfl) (by rfl) (fun KQ hKQ => ?_)
              refine wp_store_blk hx 39 (.tmp 10) (.tmp 55) (by rfl) (by rfl) (by rfl) (by rfl) (by exact hi) (by simp [Value.oneCell']) ?_
              intro wy hx2 hgx
              replace hf := hf.grown hgx (blk_ne hf hx (by decide))
              replace HB := below_own HB hgx HB.size kx
              have hs55r := HB
              refine hKQ.out _ _ hs55r ?_
              clear hKQ KQ
              try simp only [Act.put]
              refine held_callA 13 (by rfl) (by kernel_rfl) (by rfl) (fun KQ hKQ => ?_)
              refine wp_store_blk hf 31 (.tmp 11) (.tmp 56) (by rfl) (by rfl) (by rfl) (by rfl) (by exact hj) (by simp [Value.oneCell']) ?_
              intro wz hf2 hgf
              replace HB := below_own HB hgf HB.size kf
              have hs56r := HB
              refine hKQ.out _ _ hs56r ?_
              clear hKQ KQ
              try simp only [Act.put]
              refine wpAnyH_done (by kernel_rfl) ?_ _
              try refine NoPanic.normal ?_
              go_wp2_with fail
              go_meet
              exact left8_mk HB hf2
          · skip
            go_simp
            have hbs : Below x28.heap.size x28 (x28.alloc (.cells #[.int .i64 0, .slice none 0 0, .int .u32 0, .int .i64 0, .bool false] 39)) := ((Below.refl x28.heap.size x28).alloc (Nat.le_refl _) (.cells #[.int .i64 0, .slice none 0 0, .int .u32 0, .int .i64 0, .bool false] 39))
            have HB2 : Below u8.heap.size u8 (x28.alloc (.cells #[.int .i64 0, .slice none 0 0, .int .u32 0, .int .i64 0, .bool false] 39)) := HB.trans (hbs.mono HB.size)
            replace hf := hf.below hbs hf.lt
            replace row := row.below hbs
            have hx : Blk (x28.alloc (.cells #[.int .i64 0, .slice none 0 0, .int .u32 0, .int .i64 0, .bool false] 39)) x28.heap.size 39 #[.int .i64 0, .slice none 0 0, .int .u32 0, .int .i64 0, .bool false] := Blk.new x28 39 #[.int .i64 0, .slice none 0 0, .int .u32 0, .int .i64 0, .bool false]
            have kx : u8.heap.size ≤ x28.heap.size := HB.size
            generalize (x28.alloc (.cells #[.int .i64 0, .slice none 0 0, .int .u32 0, .int .i64 0, .bool false] 39)) = x34 at *
            clear HB hbs
            have HB := HB2
            clear HB2
            have hs57r := HB
            refine hKQ.out _ _ hs57r ?_
            clear hKQ KQ
            try simp only [Act.put, List.setIfInBounds_toArray, List.set_cons_zero, List.set_cons_succ]
            refine held_callA 5 (by rfl) (by kernel_rfl) (by rfl) (fun KQ hKQ => ?_)
            refine wp_app _ (.tmp 50) (.tmp 52) (by rfl) u8.heap.size _ _ _ (by rfl) row _ A4 4 c1 _ (by rfl) (by4.nx HB) (by omega) HB.size ?_
            intro vr x35 row2 hgr hdr
            clear hdr
            have hba := row.below_app hgr HB.size
            replace HB := HB.trans hba
            replace hx := hx.grown hgr (own_ne row hx (by decide))
            replace hf := hf.grown hgr (own_ne row hf (by decide))
            clear row hba hgr
            have row := row2
            clear row2
            obtain ⟨Ar, cr, rfl, hnr, hcr, byr, _⟩ := row.any2
            have hs58r := HB
            refine hKQ.out _ _ hs58r ?_
            clear hKQ KQ
            try simp only [Act.put, List.setIfInBounds_toArray, List.set_cons_zero, List.set_cons_succ]
            refine held_callA 6 (by rfl) (by kernel_rfl) (by rfl) (fun KQ hKQ => ?_)
            go_simp
            refine (attrParse_any x35 Ar _ cr _ byr (by omega)).mono ?_
            rintro e x36 ⟨hb, hP⟩
            rw [E3.out] at hP
            obtain ⟨XX, dd, rfl, _, _, _⟩ := hP.no
            rw [show ([] : List UInt8).length = 0 from rfl]
            clear hP byr hnr hcr
            replace HB := HB.trans (hb.mono HB.size)
            replace hx := hx.below hb hx.lt
            replace hf := hf.below hb hf.lt
            clear row hb
            have hs59r := HB
            refine hKQ.out _ _ hs59r ?_
            clear hKQ KQ
            try simp only [Act.put, List.setIfInBounds_toArray, List.set_cons_zero, List.set_cons_succ]
            (refine held_takeA 7 (by rfl) ?_ (by kernel_rfl) (fun _ _ _ h => h) hs59r ?_ ?_; rotate_left; (focus (intro wq hSw; have hrd : ∀ b o, b < u8.heap.size → wq.cell? ⟨b, o, none⟩ = u8.cell? ⟨b, o, none⟩ := (fun b o h => hSw.cell (p := ⟨b, o, none⟩) h); go_simp; try with_reducible rfl; done)); try simp only [Act.put, List.setIfInBounds_toArray, List.set_cons_zero, List.set_cons_succ])
            (refine held_takeA 8 (by rfl) ?_ (by kernel_rfl) (fun _ _ _ h => h) hs59r ?_ ?_; rotate_left; (focus (intro wq hSw; have hrd : ∀ b o, b < u8.heap.size → wq.cell? ⟨b, o, none⟩ = u8.cell? ⟨b, o, none⟩ := (fun b o h => hSw.cell (p := ⟨b, o, none⟩) h); go_simp; try with_reducible rfl; done)); try simp only [Act.put, List.setIfInBounds_toArray, List.set_cons_zero, List.set_cons_succ])
            (refine held_takeA 9 (by rfl) ?_ (by kernel_rfl) (fun _ _ _ h => h) hs59r ?_ ?_; rotate_left; (focus (intro wq hSw; have hrd : ∀ b o, b < u8.heap.size → wq.cell? ⟨b, o, none⟩ = u8.cell? ⟨b, o, none⟩ := (fun b o h => hSw.cell (p := ⟨b, o, none⟩) h); go_simp; try with_reducible rfl; done)); try simp only [Act.put, List.setIfInBounds_toArray, List.set_cons_zero, List.set_cons_succ])
            refine held_callA 12 (by rfl) (by kernel_rfl) (by rfl) (fun KQ hKQ => ?_)
            refine wp_store_blk hx 39 (.tmp 10) (.tmp 55) (by rfl) (by rfl) (by rfl) (by rfl) (by exact hi) (by simp [Value.oneCell']) ?_
            intro wy hx2 hgx
            replace hf := hf.grown hgx (blk_ne hf hx (by decide))
            replace HB := below_own HB hgx HB.size kx
            have hs60r := HB
            refine hKQ.out _ _ hs60r ?_
            clear hKQ KQ
            try simp only [Act.put]
            refine held_callA 13 (by rfl) (by kernel_rfl) (by rfl) (fun KQ hKQ => ?_)
            refine wp_store_blk hf 31 (.tmp 11) (.tmp 56) (by rfl) (by rfl) (by rfl) (by rfl) (by exact hj) (by simp [Value.oneCell']) ?_
            intro wz hf2 hgf
            replace HB := below_own HB hgf HB.size kf
            have hs61r := HB
            refine hKQ.out _ _ hs61r ?_
            clear hKQ KQ
            try simp only [Act.put]
            refine wpAnyH_done (by kernel_rfl) ?_ _
            try refine NoPanic.normal ?_
            go_wp2_with fail
            go_meet
            exact left8_mk HB hf2
      · skip
        go_simp
        have hbs : Below x1.heap.size x1 (x1.alloc (.cells #[.int .i64 0, .slice none 0 0, .int .u32 0, .int .i64 0, .bool false] 39)) := ((Below.refl x1.heap.size x1).alloc (Nat.le_refl _) (.cells #[.int .i64 0, .slice none 0 0, .int .u32 0, .int .i64 0, .bool false] 39))
        have HB2 : Below u8.heap.size u8 (x1.alloc (.cells #[.int .i64 0, .slice none 0 0, .int .u32 0, .int .i64 0, .bool false] 39)) := HB.trans (hbs.mono HB.size)
        replace row := row.below hbs
        have hx : Blk (x1.alloc (.cells #[.int .i64 0, .slice none 0 0, .int .u32 0, .int .i64 0, .bool false] 39)) x1.heap.size 39 #[.int .i64 0, .slice none 0 0, .int .u32 0, .int .i64 0, .bool false] := Blk.new x1 39 #[.int .i64 0, .slice none 0 0, .int .u32 0, .int .i64 0, .bool false]
        have kx : u8.heap.size ≤ x1.heap.size := HB.size
        generalize (x1.alloc (.cells #[.int .i64 0, .slice none 0 0, .int .u32 0, .int .i64 0, .bool false] 39)) = x37 at *
        clear HB hbs
        have HB := HB2
        clear HB2
        have hs62r := HB
        refine hKQ.out _ _ hs62r ?_
        clear hKQ KQ
        try simp only [Act.put, List.setIfInBounds_toArray, List.set_cons_zero, List.set_cons_succ]
        refine held_two 2 11 (by rfl) (by rfl) (by kernel_rfl) (by rfl) (by rfl) (fun KQ hKQ => ?_) (fun KQ hKQ => ?_)
        · skip
          refine wp_app _ (.tmp 48) (.tmp 49) (by rfl) u8.heap.size _ 0 [] (by rfl) row _ A1 L.length c1 _ (by rfl) (by7.nx HB) (by omega) HB.size ?_
          intro vr x38 row2 hgr hdr
          clear hdr
          have hba := row.below_app hgr HB.size
          replace HB := HB.trans hba
          replace hx := hx.grown hgr (own_ne row hx (by decide))
          clear row hba hgr
          have row := row2
          clear row2
          rw [Nat.zero_add, List.nil_append] at row
          obtain ⟨Ar, cr, rfl, hnr, hcr, byr, _⟩ := row.any2
          clear hnr hcr byr
          have hs63r := HB
          refine hKQ.out _ _ hs63r ?_
          clear hKQ KQ
          try simp only [Act.put, List.setIfInBounds_toArray, List.set_cons_zero, List.set_cons_succ]
          refine held_two 5 11 (by rfl) (by rfl) (by kernel_rfl) (by rfl) (by rfl) (fun KQ hKQ => ?_) (fun KQ hKQ => ?_)
          · skip
            refine wp_app _ (.tmp 50) (.tmp 52) (by rfl) u8.heap.size _ _ _ (by rfl) row _ A4 4 c1 _ (by rfl) (by4.nx HB) (by omega) HB.size ?_
            intro vr x39 row2 hgr hdr
            clear hdr
            have hba := row.below_app hgr HB.size
            replace HB := HB.trans hba
            replace hx := hx.grown hgr (own_ne row hx (by decide))
            clear row hba hgr
            have row := row2
            clear row2
            obtain ⟨Ar, cr, rfl, hnr, hcr, byr, _⟩ := row.any2
            have hs64r := HB
            refine hKQ.out _ _ hs64r ?_
            clear hKQ KQ
            try simp only [Act.put, List.setIfInBounds_toArray, List.set_cons_zero, List.set_cons_succ]
            refine held_two 6 11 (by rfl) (by rfl) (by kernel_rfl) (by rfl) (by rfl) (fun KQ hKQ => ?_) (fun KQ hKQ => ?_)
            · skip
              go_simp
              refine (attrParse_any x39 Ar _ cr _ byr (by omega)).mono ?_
              rintro e x40 ⟨hb, hP⟩
              rw [E3.out] at hP
              obtain ⟨XX, dd, rfl, _, _, _⟩ := hP.no
              rw [show ([] : List UInt8).length = 0 from rfl]
              clear hP byr hnr hcr
              replace HB := HB.trans (hb.mono HB.size)
              replace hx := hx.below hb hx.lt
              clear row hb
              have hs65r := HB
              refine hKQ.out _ _ hs65r ?_
              clear hKQ KQ
              try simp only [Act.put, List.setIfInBounds_toArray, List.set_cons_zero, List.set_cons_succ]
              (refine held_takeA 7 (by rfl) ?_ (by kernel_rfl) (fun _ _ _ h => h) hs65r ?_ ?_; rotate_left; (focus (intro wq hSw; have hrd : ∀ b o, b < u8.heap.size → wq.cell? ⟨b, o, none⟩ = u8.cell? ⟨b, o, none⟩ := (fun b o h => hSw.cell (p := ⟨b, o, none⟩) h); go_simp; try with_reducible rfl; done)); try simp only [Act.put, List.setIfInBounds_toArray, List.set_cons_zero, List.set_cons_succ])
              (refine held_takeA 8 (by rfl) ?_ (by kernel_rfl) (fun _ _ _ h => h) hs65r ?_ ?_; rotate_left; (focus (intro wq hSw; have hrd : ∀ b o, b < u8.heap.size → wq.cell? ⟨b, o, none⟩ = u8.cell? ⟨b, o, none⟩ := (fun b o h => hSw.cell (p := ⟨b, o, none⟩) h); go_simp; try with_reducible rfl; done)); try simp only [Act.put, List.setIfInBounds_toArray, List.set_cons_zero, List.set_cons_succ])
              (refine held_takeA 9 (by rfl) ?_ (by kernel_rfl) (fun _ _ _ h => h) hs65r ?_ ?_; rotate_left; (focus (intro wq hSw; have hrd : ∀ b o, b < u8.heap.size → wq.cell? ⟨b, o, none⟩ = u8.cell? ⟨b, o, none⟩ := (fun b o h => hSw.cell (p := ⟨b, o, none⟩) h); go_simp; try with_reducible rfl; done)); try simp only [Act.put, List.setIfInBounds_toArray, List.set_cons_zero, List.set_cons_succ])
              refine held_callA 11 (by rfl) (by kernel_rfl) (by rfl) (fun KQ hKQ => ?_)
              go_simp
              have hbs : Below x40.heap.size x40 (x40.alloc (.cells #[.int .i64 0, .int .i64 0, .slice none 0 0] 31)) := ((Below.refl x40.heap.size x40).alloc (Nat.le_refl _) (.cells #[.int .i64 0, .int .i64 0, .slice none 0 0] 31))
              have HB2 : Below u8.heap.size u8 (x40.alloc (.cells #[.int .i64 0, .int .i64 0, .slice none 0 0] 31)) := HB.trans (hbs.mono HB.size)
              replace hx := hx.below hbs hx.lt
              have hf : Blk (x40.alloc (.cells #[.int .i64 0, .int .i64 0, .slice none 0 0] 31)) x40.heap.size 31 #[.int .i64 0, .int .i64 0, .slice none 0 0] := Blk.new x40 31 #[.int .i64 0, .int .i64 0, .slice none 0 0]
              have kf : u8.heap.size ≤ x40.heap.size := HB.size
              generalize (x40.alloc (.cells #[.int .i64 0, .int .i64 0, .slice none 0 0] 31)) = x41 at *
              clear HB hbs
              have HB := HB2
              clear HB2
              have hs66r := HB
              refine hKQ.out _ _ hs66r ?_
              clear hKQ KQ
              try simp only [Act.put, List.setIfInBounds_toArray, List.set_cons_zero, List.set_cons_succ]
              refine held_callA 12 (by rfl) (by kernel_rfl) (by rfl) (fun KQ hKQ => ?_)
              refine wp_store_blk hx 39 (.tmp 10) (.tmp 55) (by rfl) (by rfl) (by rfl) (by rfl) (by exact hi) (by simp [Value.oneCell']) ?_
              intro wy hx2 hgx
              replace hf := hf.grown hgx (blk_ne hf hx (by decide))
              replace HB := below_own HB hgx HB.size kx
              have hs67r := HB
              refine hKQ.out _ _ hs67r ?_
              clear hKQ KQ
              try simp only [Act.put]
              refine held_callA 13 (by rfl) (by kernel_rfl) (by rfl) (fun KQ hKQ => ?_)
              refine wp_store_blk hf 31 (.tmp 11) (.tmp 56) (by rfl) (by rfl) (by rfl) (by rfl) (by exact hj) (by simp [Value.oneCell']) ?_
              intro wz hf2 hgf
              replace HB := below_own HB hgf HB.size kf
              have hs68r := HB
              refine hKQ.out _ _ hs68r ?_
              clear hKQ KQ
              try simp only [Act.put]
              refine wpAnyH_done (by kernel_rfl) ?_ _
              try refine NoPanic.normal ?_
              go_wp2_with fail
              go_meet
              exact left8_mk HB hf2
            · skip
              go_simp
              have hbs : Below x39.heap.size x39 (x39.alloc (.cells #[.int .i64 0, .int .i64 0, .slice none 0 0] 31)) := ((Below.refl x39.heap.size x39).alloc (Nat.le_refl _) (.cells #[.int .i64 0, .int .i64 0, .slice none 0 0] 31))
              have HB2 : Below u8.heap.size u8 (x39.alloc (.cells #[.int .i64 0, .int .i64 0, .slice none 0 0] 31)) := HB.trans (hbs.mono HB.size)
              replace hx := hx.below hbs hx.lt
              replace row := row.below hbs
              replace byr := byr.nx hbs
              have hf : Blk (x39.alloc (.cells #[.int .i64 0, .int .i64 0, .slice none 0 0] 31)) x39.heap.size 31 #[.int .i64 0, .int .i64 0, .slice none 0 0] := Blk.new x39 31 #[.int .i64 0, .int .i64 0, .slice none 0 0]
              have kf : u8.heap.size ≤ x39.heap.size := HB.size
              generalize (x39.alloc (.cells #[.int .i64 0, .int .i64 0, .slice none 0 0] 31)) = x42 at *
              clear HB hbs
              have HB := HB2
              clear HB2
              have hs69r := HB
              refine hKQ.out _ _ hs69r ?_
              clear hKQ KQ
              try simp only [Act.put, List.setIfInBounds_toArray, List.set_cons_zero, List.set_cons_succ]
              refine held_callA 6 (by rfl) (by kernel_rfl) (by rfl) (fun KQ hKQ => ?_)
              go_simp
              refine (attrParse_any x42 Ar _ cr _ byr (by omega)).mono ?_
              rintro e x43 ⟨hb, hP⟩
              rw [E3.out] at hP
              obtain ⟨XX, dd, rfl, _, _, _⟩ := hP.no
              rw [show ([] : List UInt8).length = 0 from rfl]
              clear hP byr hnr hcr
              replace HB := HB.trans (hb.mono HB.size)
              replace hx := hx.below hb hx.lt
              replace hf := hf.below hb hf.lt
              clear row hb
              have hs70r := HB
              refine hKQ.out _ _ hs70r ?_
              clear hKQ KQ
              try simp only [Act.put, List.setIfInBounds_toArray, List.set_cons_zero, List.set_cons_succ]
              (refine held_takeA 7 (by rfl) ?_ (by kernel_rfl) (fun _ _ _ h => h) hs70r ?_ ?_; rotate_left; (focus (intro wq hSw; have hrd : ∀ b o, b < u8.heap.size → wq.cell? ⟨b, o, none⟩ = u8.cell? ⟨b, o, none⟩ := (fun b o h => hSw.cell (p := ⟨b, o, none⟩) h); go_simp; try with_reducible rfl; done)); try simp only [Act.put, List.setIfInBounds_toArray, List.set_cons_zero, List.set_cons_succ])
              (refine held_takeA 8 (by rfl) ?_ (by kernel_rfl) (fun _ _ _ h => h) hs70r ?_ ?_; rotate_left; (focus (intro wq hSw; have hrd : ∀ b o, b < u8.heap.size → wq.cell? ⟨b, o, none⟩ = u8.cell? ⟨b, o, none⟩ := (fun b o h => hSw.cell (p := ⟨b, o, none⟩) h); go_simp; try with_reducible rfl; done)); try simp only [Act.put, List.setIfInBounds_toArray, List.set_cons_zero, List.set_cons_succ])
              (refine held_takeA 9 (by rfl) ?_ (by kernel_rfl) (fun _ _ _ h => h) hs70r ?_ ?_; rotate_left; (focus (intro wq hSw; have hrd : ∀ b o, b < u8.heap.size → wq.cell? ⟨b, o, none⟩ = u8.cell? ⟨b, o, none⟩ := (fun b o h => hSw.cell (p := ⟨b, o, none⟩) h); go_simp; try with_reducible rfl; done)); try simp only [Act.put, List.setIfInBounds_toArray, List.set_cons_zero, List.set_cons_succ])
              refine held_callA 12 (by rfl) (by kernel_rfl) (by rfl) (fun KQ hKQ => ?_)
              refine wp_store_blk hx 39 (.tmp 10) (.tmp 55) (by rfl) (by rfl) (by rfl) (by rfl) (by exact hi) (by simp [Value.oneCell']) ?_
              intro wy hx2 hgx
              replace hf := hf.grown hgx (blk_ne hf hx (by decide))
              replace HB := below_own HB hgx HB.size kx
              have hs71r := HB
              refine hKQ.out _ _ hs71r ?_
              clear hKQ KQ
              try simp only [Act.put]
              refine held_callA 13 (by rfl) (by kernel_rfl) (by rfl) (fun KQ hKQ => ?_)
              refine wp_store_blk hf 31 (.tmp 11) (.tmp 56) (by rfl) (by rfl) (by rfl) (by rfl) (by exact hj) (by simp [Value.oneCell']) ?_
              intro wz hf2 hgf
              replace HB := below_own HB hgf HB.size kf
              have hs72r := HB
              refine hKQ.out _ _ hs72r ?_
              clear hKQ KQ
              try simp only [Act.put]
              refine wpAnyH_done (by kernel_rfl) ?_ _
              try refine NoPanic.normal ?_
              go_wp2_with fail
              go_meet
              exact left8_mk HB hf2
          · skip
            go_simp
            have hbs : Below x38.heap.size x38 (x38.alloc (.cells #[.int .i64 0, .int .i64 0, .slice none 0 0] 31)) := ((Below.refl x38.heap.size x38).alloc (Nat.le_refl _) (.cells #[.int .i64 0, .int .i64 0, .slice none 0 0] 31))
            have HB2 : Below u8.heap.size u8 (x38.alloc (.cells #[.int .i64 0, .int .i64 0, .slice none 0 0] 31)) := HB.trans (hbs.mono HB.size)
            replace hx := hx.below hbs hx.lt
            replace row := row.below hbs
            have hf : Blk (x38.alloc (.cells #[.int .i64 0, .int .i64 0, .slice none 0 0] 31)) x38.heap.size 31 #[.int .i64 0, .int .i64 0, .slice none 0 0] := Blk.new x38 31 #[.int .i64 0, .int .i64 0, .slice none 0 0]
            have kf : u8.heap.size ≤ x38.heap.size := HB.size
            generalize (x38.alloc (.cells #[.int .i64 0, .int .i64 0, .slice none 0 0] 31)) = x44 at *
            clear HB hbs
            have HB := HB2
            clear HB2
            have hs73r := HB
            refine hKQ.out _ _ hs73r ?_
            clear hKQ KQ
            try simp only [Act.put, List.setIfInBounds_toArray, List.set_cons_zero, List.set_cons_succ]
            refine held_callA 5 (by rfl) (by kernel_rfl) (by rfl) (fun KQ hKQ => ?_)
            refine wp_app _ (.tmp 50) (.tmp 52) (by rfl) u8.heap.size _ _ _ (by rfl) row _ A4 4 c1 _ (by rfl) (by4.nx HB) (by omega) HB.size ?_
            intro vr x45 row2 hgr hdr
            clear hdr
            have hba := row.below_app hgr HB.size
            replace HB := HB.trans hba
            replace hx := hx.grown hgr (own_ne row hx (by decide))
            replace hf := hf.grown hgr (own_ne row hf (by decide))
            clear row hba hgr
            have row := row2
            clear row2
            obtain ⟨Ar, cr, rfl, hnr, hcr, byr, _⟩ := row.any2
            have hs74r := HB
            refine hKQ.out _ _ hs74r ?_
            clear hKQ KQ
            try simp only [Act.put, List.setIfInBounds_toArray, List.set_cons_zero, List.set_cons_succ]
            refine held_callA 6 (by rfl) (by kernel_rfl) (by rfl) (fun KQ hKQ => ?_)
            go_simp
            refine (attrParse_any x45 Ar _ cr _ byr (by omega)).mono ?_
            rintro e x46 ⟨hb, hP⟩
            rw [E3.out] at hP
            obtain ⟨XX, dd, rfl, _, _, _⟩ := hP.no
            rw [show ([] : List UInt8).length = 0 from rfl]
            clear hP byr hnr hcr
            replace HB := HB.trans (hb.mono HB.size)
            replace hx := hx.below hb hx.lt
            replace hf := hf.below hb hf.lt
            clear row hb
            have hs75r := HB
            refine hKQ.out _ _ hs75r ?_
            clear hKQ KQ
            try simp only [Act.put, List.setIfInBounds_toArray, List.set_cons_zero, List.set_cons_succ]
            (refine held_takeA 7 (by rfl) ?_ (by kernel_rfl) (fun _ _ _ h => h) hs75r ?_ ?_; rotate_left; (focus (intro wq hSw; have hrd : ∀ b o, b < u8.heap.size → wq.cell? ⟨b, o, none⟩ = u8.cell? ⟨b, o, none⟩ := (fun b o h => hSw.cell (p := ⟨b, o, none⟩) h); go_simp; try with_reducible rfl; done)); try simp only [Act.put, List.setIfInBounds_toArray, List.set_cons_zero, List.set_cons_succ])
            (refine held_takeA 8 (by rfl) ?_ (by kernel_rfl) (fun _ _ _ h => h) hs75r ?_ ?_; rotate_left; (focus (intro wq hSw; have hrd : ∀ b o, b < u8.heap.size → wq.cell? ⟨b, o, none⟩ = u8.cell? ⟨b, o, none⟩ := (fun b o h => hSw.cell (p := ⟨b, o, none⟩) h); go_simp; try with_reducible rfl; done)); try simp only [Act.put, List.setIfInBounds_toArray, List.set_cons_zero, List.set_cons_succ])
            (refine held_takeA 9 (by rfl) ?_ (by kernel_rfl) (fun _ _ _ h => h) hs75r ?_ ?_; rotate_left; (focus (intro wq hSw; have hrd : ∀ b o, b < u8.heap.size → wq.cell? ⟨b, o, none⟩ = u8.cell? ⟨b, o, none⟩ := (fun b o h => hSw.cell (p := ⟨b, o, none⟩) h); go_simp; try with_reducible rfl; done)); try simp only [Act.put, List.setIfInBounds_toArray, List.set_cons_zero, List.set_cons_succ])
            refine held_callA 12 (by rfl) (by kernel_rfl) (by rfl) (fun KQ hKQ => ?_)
            refine wp_store_blk hx 39 (.tmp 10) (.tmp 55) (by rfl) (by rfl) (by rfl) (by rfl) (by exact hi) (by simp [Value.oneCell']) ?_
            intro wy hx2 hgx
            replace hf := hf.grown hgx (blk_ne hf hx (by decide))
            replace HB := below_own HB hgx HB.size kx
            have hs76r := HB
            refine hKQ.out _ _ hs76r ?_
            clear hKQ KQ
            try simp only [Act.put]
            refine held_callA 13 (by rfl) (by kernel_rfl) (by rfl) (fun KQ hKQ => ?_)
            refine wp_store_blk hf 31 (.tmp 11) (.tmp 56) (by rfl) (by rfl) (by rfl) (by rfl) (by exact hj) (by simp [Value.oneCell']) ?_
            intro wz hf2 hgf
            replace HB := below_own HB hgf HB.size kf
            have hs77r := HB
            refine hKQ.out _ _ hs77r ?_
            clear hKQ KQ
            try simp only [Act.put]
            refine wpAnyH_done (by kernel_rfl) ?_ _
            try refine NoPanic.normal ?_
            go_wp2_with fail
            go_meet
            exact left8_mk HB hf2
        · skip
          go_simp
          have hbs : Below x37.heap.size x37 (x37.alloc (.cells #[.int .i64 0, .int .i64 0, .slice none 0 0] 31)) := ((Below.refl x37.heap.size x37).alloc (Nat.le_refl _) (.cells #[.int .i64 0, .int .i64 0, .slice none 0 0] 31))
          have HB2 : Below u8.heap.size u8 (x37.alloc (.cells #[.int .i64 0, .int .i64 0, .slice none 0 0] 31)) := HB.trans (hbs.mono HB.size)
          replace hx := hx.below hbs hx.lt
          replace row := row.below hbs
          have hf : Blk (x37.alloc (.cells #[.int .i64 0, .int .i64 0, .slice none 0 0] 31)) x37.heap.size 31 #[.int .i64 0, .int .i64 0, .slice none 0 0] := Blk.new x37 31 #[.int .i64 0, .int .i64 0, .slice none 0 0]
          have kf : u8.heap.size ≤ x37.heap.size := HB.size
          generalize (x37.alloc (.cells #[.int .i64 0, .int .i64 0, .slice none 0 0] 31)) = x47 at *
          clear HB hbs
          have HB := HB2
          clear HB2
          have hs78r := HB
          refine hKQ.out _ _ hs78r ?_
          clear hKQ KQ
          try simp only [Act.put, List.setIfInBounds_toArray, List.set_cons_zero, List.set_cons_succ]
          refine held_callA 2 (by rfl) (by kernel_rfl) (by rfl) (fun KQ hKQ => ?_)
          refine wp_app _ (.tmp 48) (.tmp 49) (by rfl) u8.heap.size _ 0 [] (by rfl) row _ A1 L.length c1 _ (by rfl) (by7.nx HB) (by omega) HB.size ?_
          intro vr x48 row2 hgr hdr
          clear hdr
          have hba := row.below_app hgr HB.size
          replace HB := HB.trans hba
          replace hx := hx.grown hgr (own_ne row hx (by decide))
          replace hf := hf.grown hgr (own_ne row hf (by decide))
          clear row hba hgr
          have row := row2
          clear row2
          rw [Nat.zero_add, List.nil_append] at row
          obtain ⟨Ar, cr, rfl, hnr, hcr, byr, _⟩ := row.any2
          clear hnr hcr byr
          have hs79r := HB
          refine hKQ.out _ _ hs79r ?_
          clear hKQ KQ
          try simp only [Act.put, List.setIfInBounds_toArray, List.set_cons_zero, List.set_cons_succ]
          refine held_callA 5 (by rfl) (by kernel_rfl) (by rfl) (fun KQ hKQ => ?_)
          refine wp_app _ (.tmp 50) (.tmp 52) (by rfl) u8.heap.size _ _ _ (by rfl) row _ A4 4 c1 _ (by rfl) (by4.nx HB) (by omega) HB.size ?_
          intro vr x49 row2 hgr hdr
          clear hdr
          have hba := row.below_app hgr HB.size
          replace HB := HB.trans hba
          replace hx := hx.grown hgr (own_ne row hx (by decide))
          replace hf := hf.grown hgr (own_ne row hf (by decide))
          clear row hba hgr
          have row := row2
          clear row2
          obtain ⟨Ar, cr, rfl, hnr, hcr, byr, _⟩ := row.any2
          have hs80r := HB
          refine hKQ.out _ _ hs80r ?_
          clear hKQ KQ
          try simp only [Act.put, List.setIfInBounds_toArray, List.set_cons_zero, List.set_cons_succ]
          refine held_callA 6 (by rfl) (by kernel_rfl) (by rfl) (fun KQ hKQ => ?_)
          go_simp
          refine (attrParse_any x49 Ar _ cr _ byr (by omega)).mono ?_
          rintro e x50 ⟨hb, hP⟩
          rw [E3.out] at hP
          obtain ⟨XX, dd, rfl, _, _, _⟩ := hP.no
          rw [show ([] : List UInt8).length = 0 from rfl]
          clear hP byr hnr hcr
          replace HB := HB.trans (hb.mono HB.size)
          replace hx := hx.below hb hx.lt
          replace hf := hf.below hb hf.lt
          clear row hb
          have hs81r := HB
          refine hKQ.out _ _ hs81r ?_
          clear hKQ KQ
          try simp only [Act.put, List.setIfInBounds_toArray, List.set_cons_zero, List.set_cons_succ]
          (refine held_takeA 7 (by rfl) ?_ (by kernel_rfl) (fun _ _ _ h => h) hs81r ?_ ?_; rotate_left; (focus (intro wq hSw; have hrd : ∀ b o, b < u8.heap.size → wq.cell? ⟨b, o, none⟩ = u8.cell? ⟨b, o, none⟩ := (fun b o h => hSw.cell (p := ⟨b, o, none⟩) h); go_simp; try with_reducible rfl; done)); try simp only [Act.put, List.setIfInBounds_toArray, List.set_cons_zero, List.set_cons_succ])
          (refine held_takeA 8 (by rfl) ?_ (by kernel_rfl) (fun _ _ _ h => h) hs81r ?_ ?_; rotate_left; (focus (intro wq hSw; have hrd : ∀ b o, b < u8.heap.size → wq.cell? ⟨b, o, none⟩ = u8.cell? ⟨b, o, none⟩ := (fun b o h => hSw.cell (p := ⟨b, o, none⟩) h); go_simp; try with_reducible rfl; done)); try simp only [Act.put, List.setIfInBounds_toArray, List.set_cons_zero, List.set_cons_succ])
          (refine held_takeA 9 (by rfl) ?_ (by kernel_rfl) (fun _ _ _ h => h) hs81r ?_ ?_; rotate_left; (focus (intro wq hSw; have hrd : ∀ b o, b < u8.heap.size → wq.cell? ⟨b, o, none⟩ = u8.cell? ⟨b, o, none⟩ := (fun b o h => hSw.cell (p := ⟨b, o, none⟩) h); go_simp; try with_reducible rfl; done)); try simp only [Act.put, List.setIfInBounds_toArray, List.set_cons_zero, List.set_cons_succ])
          refine held_callA 12 (by rfl) (by kernel_rfl) (by rfl) (fun KQ hKQ => ?_)
          refine wp_store_blk hx 39 (.tmp 10) (.tmp 55) (by rfl) (by rfl) (by rfl) (by rfl) (by exact hi) (by simp [Value.oneCell']) ?_
          intro wy hx2 hgx
          replace hf := hf.grown hgx (blk_ne hf hx (by decide))
          replace HB := below_own HB hgx HB.size kx
          have hs82r := HB
          refine hKQ.out _ _ hs82r ?_
          clear hKQ KQ
          try simp only [Act.put]
          refine held_callA 13 (by rfl) (by kernel_rfl) (by rfl) (fun KQ hKQ => ?_)
          refine wp_store_blk hf 31 (.tmp 11) (.tmp 56) (by rfl) (by rfl) (by rfl) (by rfl) (by exact hj) (by simp [Value.oneCell']) ?_
          intro wz hf2 hgf
          replace HB := below_own HB hgf HB.size kf
          have hs83r := HB
          refine hKQ.out _ _ hs83r ?_
          clear hKQ KQ
          try simp only [Act.put]
          refine wpAnyH_done (by kernel_rfl) ?_ _
          try refine NoPanic.normal ?_
          go_wp2_with fail
          go_meet
          exact left8_mk HB hf2
      · skip
        go_simp
        have hbs : Below x1.heap.size x1 (x1.alloc (.cells #[.int .i64 0, .int .i64 0, .slice none 0 0] 31)) := ((Below.refl x1.heap.size x1).alloc (Nat.le_refl _) (.cells #[.int .i64 0, .int .i64 0, .slice none 0 0] 31))
        have HB2 : Below u8.heap.size u8 (x1.alloc (.cells #[.int .i64 0, .int .i64 0, .slice none 0 0] 31)) := HB.trans (hbs.mono HB.size)
        replace row := row.below hbs
        have hf : Blk (x1.alloc (.cells #[.int .i64 0, .int .i64 0, .slice none 0 0] 31)) x1.heap.size 31 #[.int .i64 0, .int .i64 0, .slice none 0 0] := Blk.new x1 31 #[.int .i64 0, .int .i64 0, .slice none 0 0]
        have kf : u8.heap.size ≤ x1.heap.size := HB.size
        generalize (x1.alloc (.cells #[.int .i64 0, .int .i64 0, .slice none 0 0] 31)) = x51 at *
        clear HB hbs
        have HB := HB2
        clear HB2
        have hs84r := HB
        refine hKQ.out _ _ hs84r ?_
        clear hKQ KQ
        try simp only [Act.put, List.setIfInBounds_toArray, List.set_cons_zero, List.set_cons_succ]
        refine held_two 2 10 (by rfl) (by rfl) (by kernel_rfl) (by rfl) (by rfl) (fun KQ hKQ => ?_) (fun KQ hKQ => ?_)
        · skip
          refine wp_app _ (.tmp 48) (.tmp 49) (by rfl) u8.heap.size _ 0 [] (by rfl) row _ A1 L.length c1 _ (by rfl) (by7.nx HB) (by omega) HB.size ?_
          intro vr x52 row2 hgr hdr
          clear hdr
          have hba := row.below_app hgr HB.size
          replace HB := HB.trans hba
          replace hf := hf.grown hgr (own_ne row hf (by decide))
          clear row hba hgr
          have row := row2
          clear row2
          rw [Nat.zero_add, List.nil_append] at row
          obtain ⟨Ar, cr, rfl, hnr, hcr, byr, _⟩ := row.any2
          clear hnr hcr byr
          have hs85r := HB
          refine hKQ.out _ _ hs85r ?_
          clear hKQ KQ
          try simp only [Act.put, List.setIfInBounds_toArray, List.set_cons_zero, List.set_cons_succ]
          refine held_two 5 10 (by rfl) (by rfl) (by kernel_rfl) (by rfl) (by rfl) (fun KQ hKQ => ?_) (fun KQ hKQ => ?_)
          · skip
            refine wp_app _ (.tmp 50) (.tmp 52) (by rfl) u8.heap.size _ _ _ (by rfl) row _ A4 4 c1 _ (by rfl) (by4.nx HB) (by omega) HB.size ?_
            intro vr x53 row2 hgr hdr
            clear hdr
            have hba := row.below_app hgr HB.size
            replace HB := HB.trans hba
            replace hf := hf.grown hgr (own_ne row hf (by decide))
            clear row hba hgr
            have row := row2
            clear row2
            obtain ⟨Ar, cr, rfl, hnr, hcr, byr, _⟩ := row.any2
            have hs86r := HB
            refine hKQ.out _ _ hs86r ?_
            clear hKQ KQ
            try simp only [Act.put, List.setIfInBounds_toArray, List.set_cons_zero, List.set_cons_succ]
            refine held_two 6 10 (by rfl) (by rfl) (by kernel_rfl) (by rfl) (by rfl) (fun KQ hKQ => ?_) (fun KQ hKQ => ?_)
            · skip
              go_simp
              refine (attrParse_any x53 Ar _ cr _ byr (by omega)).mono ?_
              rintro e x54 ⟨hb, hP⟩
              rw [E3.out] at hP
              obtain ⟨XX, dd, rfl, _, _, _⟩ := hP.no
              rw [show ([] : List UInt8).length = 0 from rfl]
              clear hP byr hnr hcr
              replace HB := HB.trans (hb.mono HB.size)
              replace hf := hf.below hb hf.lt
              clear row hb
              have hs87r := HB
              refine hKQ.out _ _ hs87r ?_
              clear hKQ KQ
              try simp only [Act.put, List.setIfInBounds_toArray, List.set_cons_zero, List.set_cons_succ]
              (refine held_takeA 7 (by rfl) ?_ (by kernel_rfl) (fun _ _ _ h => h) hs87r ?_ ?_; rotate_left; (focus (intro wq hSw; have hrd : ∀ b o, b < u8.heap.size → wq.cell? ⟨b, o, none⟩ = u8.cell? ⟨b, o, none⟩ := (fun b o h => hSw.cell (p := ⟨b, o, none⟩) h); go_simp; try with_reducible rfl; done)); try simp only [Act.put, List.setIfInBounds_toArray, List.set_cons_zero, List.set_cons_succ])
              (refine held_takeA 8 (by rfl) ?_ (by kernel_rfl) (fun _ _ _ h => h) hs87r ?_ ?_; rotate_left; (focus (intro wq hSw; have hrd : ∀ b o, b < u8.heap.size → wq.cell? ⟨b, o, none⟩ = u8.cell? ⟨b, o, none⟩ := (fun b o h => hSw.cell (p := ⟨b, o, none⟩) h); go_simp; try with_reducible rfl; done)); try simp only [Act.put, List.setIfInBounds_toArray, List.set_cons_zero, List.set_cons_succ])
              (refine held_takeA 9 (by rfl) ?_ (by kernel_rfl) (fun _ _ _ h => h) hs87r ?_ ?_; rotate_left; (focus (intro wq hSw; have hrd : ∀ b o, b < u8.heap.size → wq.cell? ⟨b, o, none⟩ = u8.cell? ⟨b, o, none⟩ := (fun b o h => hSw.cell (p := ⟨b, o, none⟩) h); go_simp; try with_reducible rfl; done)); try simp only [Act.put, List.setIfInBounds_toArray, List.set_cons_zero, List.set_cons_succ])
              refine held_callA 10 (by rfl) (by kernel_rfl) (by rfl) (fun KQ hKQ => ?_)
              go_simp
              have hbs : Below x54.heap.size x54 (x54.alloc (.cells #[.int .i64 0, .slice none 0 0, .int .u32 0, .int .i64 0, .bool false] 39)) := ((Below.refl x54.heap.size x54).alloc (Nat.le_refl _) (.cells #[.int .i64 0, .slice none 0 0, .int .u32 0, .int .i64 0, .bool false] 39))
              have HB2 : Below u8.heap.size u8 (x54.alloc (.cells #[.int .i64 0, .slice none 0 0, .int .u32 0, .int .i64 0, .bool false] 39)) := HB.trans (hbs.mono HB.size)
              replace hf := hf.below hbs hf.lt
              have hx : Blk (x54.alloc (.cells #[.int .i64 0, .slice none 0 0, .int .u32 0, .int .i64 0, .bool false] 39)) x54.heap.size 39 #[.int .i64 0, .slice none 0 0, .int .u32 0, .int .i64 0, .bool false] := Blk.new x54 39 #[.int .i64 0, .slice none 0 0, .int .u32 0, .int .i64 0, .bool false]
              have kx : u8.heap.size ≤ x54.heap.size := HB.size
              generalize (x54.alloc (.cells #[.int .i64 0, .slice none 0 0, .int .u32 0, .int .i64 0, .bool false] 39)) = x55 at *
              clear HB hbs
              have HB := HB2
              clear HB2
              have hs88r := HB
              refine hKQ.out _ _ hs88r ?_
              clear hKQ KQ
              try simp only [Act.put, List.setIfInBounds_toArray, List.set_cons_zero, List.set_cons_succ]
              refine held_callA 12 (by rfl) (by kernel_rfl) (by rfl) (fun KQ hKQ => ?_)
              refine wp_store_blk hx 39 (.tmp 10) (.tmp 55) (by rfl) (by rfl) (by rfl) (by rfl) (by exact hi) (by simp [Value.oneCell']) ?_
              intro wy hx2 hgx
              replace hf := hf.grown hgx (blk_ne hf hx (by decide))
              replace HB := below_own HB hgx HB.size kx
              have hs89r := HB
              refine hKQ.out _ _ hs89r ?_
              clear hKQ KQ
              try simp only [Act.put]
              refine held_callA 13 (by rfl) (by kernel_rfl) (by rfl) (fun KQ hKQ => ?_)
              refine wp_store_blk hf 31 (.tmp 11) (.tmp 56) (by rfl) (by rfl) (by rfl) (by rfl) (by exact hj) (by simp [Value.oneCell']) ?_
              intro wz hf2 hgf
              replace HB := below_own HB hgf HB.size kf
              have hs90r := HB
              refine hKQ.out _ _ hs90r ?_
              clear hKQ KQ
              try simp only [Act.put]
              refine wpAnyH_done (by kernel_rfl) ?_ _
              try refine NoPanic.normal ?_
              go_wp2_with fail
              go_meet
              exact left8_mk HB hf2
            · skip
              go_simp
              have hbs : Below x53.heap.size x53 (x53.alloc (.cells #[.int .i64 0, .slice none 0 0, .int .u32 0, .int .i64 0, .bool false] 39)) := ((Below.refl x53.heap.size x53).alloc (Nat.le_refl _) (.cells #[.int .i64 0, .slice none 0 0, .int .u32 0, .int .i64 0, .bool false] 39))
              have HB2 : Below u8.heap.size u8 (x53.alloc (.cells #[.int .i64 0, .slice none 0 0, .int .u32 0, .int .i64 0, .bool false] 39)) := HB.trans (hbs.mono HB.size)
              replace hf := hf.below hbs hf.lt
              replace row := row.below hbs
              replace byr := byr.nx hbs
              have hx : Blk (x53.alloc (.cells #[.int .i64 0, .slice none 0 0, .int .u32 0, .int .i64 0, .bool false] 39)) x53.heap.size 39 #[.int .i64 0, .slice none 0 0, .int .u32 0, .int .i64 0, .bool false] := Blk.new x53 39 #[.int .i64 0, .slice none 0 0, .int .u32 0, .int .i64 0, .bool false]
              have kx : u8.heap.size ≤ x53.heap.size := HB.size
              generalize (x53.alloc (.cells #[.int .i64 0, .slice none 0 0, .int .u32 0, .int .i64 0, .bool false] 39)) = x56 at *
              clear HB hbs
              have HB := HB2
              clear HB2
              have hs91r := HB
              refine hKQ.out _ _ hs91r ?_
              clear hKQ KQ
              try simp only [Act.put, List.setIfInBounds_toArray, List.set_cons_zero, List.set_cons_succ]
              refine held_callA 6 (by rfl) (by kernel_rfl) (by rfl) (fun KQ hKQ => ?_)
              go_simp
              refine (attrParse_any x56 Ar _ cr _ byr (by omega)).mono ?_
              rintro e x57 ⟨hb, hP⟩
              rw [E3.out] at hP
              obtain ⟨XX, dd, rfl, _, _, _⟩ := hP.no
              rw [show ([] : List UInt8).length = 0 from rfl]
              clear hP byr hnr hcr
              replace HB := HB.trans (hb.mono HB.size)
              replace hx := hx.below hb hx.lt
              replace hf := hf.below hb hf.lt
              clear row hb
              have hs92r := HB
              refine hKQ.out _ _ hs92r ?_
              clear hKQ KQ
              try simp only [Act.put, List.setIfInBounds_toArray, List.set_cons_zero, List.set_cons_succ]
              (refine held_takeA 7 (by rfl) ?_ (by kernel_rfl) (fun _ _ _ h => h) hs92r ?_ ?_; rotate_left; (focus (intro wq hSw; have hrd : ∀ b o, b < u8.heap.size → wq.cell? ⟨b, o, none⟩ = u8.cell? ⟨b, o, none⟩ := (fun b o h => hSw.cell (p := ⟨b, o, none⟩) h); go_simp; try with_reducible rfl; done)); try simp only [Act.put, List.setIfInBounds_toArray, List.set_cons_zero, List.set_cons_succ])
              (refine held_takeA 8 (by rfl) ?_ (by kernel_rfl) (fun _ _ _ h => h) hs92r ?_ ?_; rotate_left; (focus (intro wq hSw; have hrd : ∀ b o, b < u8.heap.size → wq.cell? ⟨b, o, none⟩ = u8.cell? ⟨b, o, none⟩ := (fun b o h => hSw.cell (p := ⟨b, o, none⟩) h); go_simp; try with_reducible rfl; done)); try simp only [Act.put, List.setIfInBounds_toArray, List.set_cons_zero, List.set_cons_succ])
              (refine held_takeA 9 (by rfl) ?_ (by kernel_rfl) (fun _ _ _ h => h) hs92r ?_ ?_; rotate_left; (focus (intro wq hSw; have hrd : ∀ b o, b < u8.heap.size → wq.cell? ⟨b, o, none⟩ = u8.cell? ⟨b, o, none⟩ := (fun b o h => hSw.cell (p := ⟨b, o, none⟩) h); go_simp; try with_reducible rfl; done)); try simp only [Act.put, List.setIfInBounds_toArray, List.set_cons_zero, List.set_cons_succ])
              refine held_callA 12 (by rfl) (by kernel_rfl) (by rfl) (fun KQ hKQ => ?_)
              refine wp_store_blk hx 39 (.tmp 10) (.tmp 55) (by rfl) (by rfl) (by rfl) (by rfl) (by exact hi) (by simp [Value.oneCell']) ?_
              intro wy hx2 hgx
              replace hf := hf.grown hgx (blk_ne hf hx (by decide))
              replace HB := below_own HB hgx HB.size kx
              have hs93r := HB
              refine hKQ.out _ _ hs93r ?_
              clear hKQ KQ
              try simp only [Act.put]
              refine held_callA 13 (by rfl) (by kernel_rfl) (by rfl) (fun KQ hKQ => ?_)
              refine wp_store_blk hf 31 (.tmp 11) (.tmp 56) (by rfl) (by rfl) (by rfl) (by rfl) (by exact hj) (by simp [Value.oneCell']) ?_
              intro wz hf2 hgf
              replace HB := below_own HB hgf HB.size kf
              have hs94r := HB
              refine hKQ.out _ _ hs94r ?_
              clear hKQ KQ
              try simp only [Act.put]
              refine wpAnyH_done (by kernel_rfl) ?_ _
              try refine NoPanic.normal ?_
              go_wp2_with fail
              go_meet
              exact left8_mk HB hf2
          · skip
            go_simp
            have hbs : Below x52.heap.size x52 (x52.alloc (.cells #[.int .i64 0, .slice none 0 0, .int .u32 0, .int .i64 0, .bool false] 39)) := ((Below.refl x52.heap.size x52).alloc (Nat.le_refl _) (.cells #[.int .i64 0, .slice none 0 0, .int .u32 0, .int .i64 0, .bool false] 39))
            have HB2 : Below u8.heap.size u8 (x52.alloc (.cells #[.int .i64 0, .slice none 0 0, .int .u32 0, .int .i64 0, .bool false] 39)) := HB.trans (hbs.mono HB.size)
            replace hf := hf.below hbs hf.lt
            replace row := row.below hbs
            have hx : Blk (x52.alloc (.cells #[.int .i64 0, .slice none 0 0, .int .u32 0, .int .i64 0, .bool false] 39)) x52.heap.size 39 #[.int .i64 0, .slice none 0 0, .int .u32 0, .int .i64 0, .bool false] := Blk.new x52 39 #[.int .i64 0, .slice none 0 0, .int .u32 0, .int .i64 0, .bool false]
            have kx : u8.heap.size ≤ x52.heap.size := HB.size
            generalize (x52.alloc (.cells #[.int .i64 0, .slice none 0 0, .int .u32 0, .int .i64 0, .bool false] 39)) = x58 at *
            clear HB hbs
            have HB := HB2
            clear HB2
            have hs95r := HB
            refine hKQ.out _ _ hs95r ?_
            clear hKQ KQ
            try simp only [Act.put, List.setIfInBounds_toArray, List.set_cons_zero, List.set_cons_succ]
            refine held_callA 5 (by rfl) (by kernel_rfl) (by rfl) (fun KQ hKQ => ?_)
            refine wp_app _ (.tmp 50) (.tmp 52) (by rfl) u8.heap.size _ _ _ (by rfl) row _ A4 4 c1 _ (by rfl) (by4.nx HB) (by omega) HB.size ?_
            intro vr x59 row2 hgr hdr
            clear hdr
            have hba := row.below_app hgr HB.size
            replace HB := HB.trans hba
            replace hx := hx.grown hgr (own_ne row hx (by decide))
            replace hf := hf.grown hgr (own_ne row hf (by decide))
            clear row hba hgr
            have row := row2
            clear row2
            obtain ⟨Ar, cr, rfl, hnr, hcr, byr, _⟩ := row.any2
            have hs96r := HB
            refine hKQ.out _ _ hs96r ?_
            clear hKQ KQ
            try simp only [Act.put, List.setIfInBounds_toArray, List.set_cons_zero, List.set_cons_succ]
            refine held_callA 6 (by rfl) (by kernel_rfl) (by rfl) (fun KQ hKQ => ?_)
            go_simp
            refine (attrParse_any x59 Ar _ cr _ byr (by omega)).mono ?_
            rintro e x60 ⟨hb, hP⟩
            rw [E3.out] at hP
            obtain ⟨XX, dd, rfl, _, _, _⟩ := hP.no
            rw [show ([] : List UInt8).length = 0 from rfl]
            clear hP byr hnr hcr
            replace HB := HB.trans (hb.mono HB.size)
            replace hx := hx.below hb hx.lt
            replace hf := hf.below hb hf.lt
            clear row hb
            have hs97r := HB
            refine hKQ.out _ _ hs97r ?_
            clear hKQ KQ
            try simp only [Act.put, List.setIfInBounds_toArray, List.set_cons_zero, List.set_cons_succ]
            (refine held_takeA 7 (by rfl) ?_ (by kernel_rfl) (fun _ _ _ h => h) hs97r ?_ ?_; rotate_left; (focus (intro wq hSw; have hrd : ∀ b o, b < u8.heap.size → wq.cell? ⟨b, o, none⟩ = u8.cell? ⟨b, o, none⟩ := (fun b o h => hSw.cell (p := ⟨b, o, none⟩) h); go_simp; try with_reducible rfl; done)); try simp only [Act.put, List.setIfInBounds_toArray, List.set_cons_zero, List.set_cons_succ])
            (refine held_takeA 8 (by rfl) ?_ (by kernel_rfl) (fun _ _ _ h => h) hs97r ?_ ?_; rotate_left; (focus (intro wq hSw; have hrd : ∀ b o, b < u8.heap.size → wq.cell? ⟨b, o, none⟩ = u8.cell? ⟨b, o, none⟩ := (fun b o h => hSw.cell (p := ⟨b, o, none⟩) h); go_simp; try with_reducible rfl; done)); try simp only [Act.put, List.setIfInBounds_toArray, List.set_cons_zero, List.set_cons_succ])
            (refine held_takeA 9 (by rfl) ?_ (by kernel_rfl) (fun _ _ _ h => h) hs97r ?_ ?_; rotate_left; (focus (intro wq hSw; have hrd : ∀ b o, b < u8.heap.size → wq.cell? ⟨b, o, none⟩ = u8.cell? ⟨b, o, none⟩ := (fun b o h => hSw.cell (p := ⟨b, o, none⟩) h); go_simp; try with_reducible rfl; done)); try simp only [Act.put, List.setIfInBounds_toArray, List.set_cons_zero, List.set_cons_succ])
            refine held_callA 12 (by rfl) (by kernel_rfl) (by rfl) (fun KQ hKQ => ?_)
            refine wp_store_blk hx 39 (.tmp 10) (.tmp 55) (by rfl) (by rfl) (by rfl) (by rfl) (by exact hi) (by simp [Value.oneCell']) ?_
            intro wy hx2 hgx
            replace hf := hf.grown hgx (blk_ne hf hx (by decide))
            replace HB := below_own HB hgx HB.size kx
            have hs98r := HB
            refine hKQ.out _ _ hs98r ?_
            clear hKQ KQ
            try simp only [Act.put]
            refine held_callA 13 (by rfl) (by kernel_rfl) (by rfl) (fun KQ hKQ => ?_)
            refine wp_store_blk hf 31 (.tmp 11) (.tmp 56) (by rfl) (by rfl) (by rfl) (by rfl) (by exact hj) (by simp [Value.oneCell']) ?_
            intro wz hf2 hgf
            replace HB := below_own HB hgf HB.size kf
            have hs99r := HB
            refine hKQ.out _ _ hs99r ?_
            clear hKQ KQ
            try simp only [Act.put]
            refine wpAnyH_done (by kernel_rfl) ?_ _
            try refine NoPanic.normal ?_
            go_wp2_with fail
            go_meet
            exact left8_mk HB hf2
        · skip
          go_simp
          have hbs : Below x51.heap.size x51 (x51.alloc (.cells #[.int .i64 0, .slice none 0 0, .int .u32 0, .int .i64 0, .bool false] 39)) := ((Below.refl x51.heap.size x51).alloc (Nat.le_refl _) (.cells #[.int .i64 0, .slice none 0 0, .int .u32 0, .int .i64 0, .bool false] 39))
          have HB2 : Below u8.heap.size u8 (x51.alloc (.cells #[.int .i64 0, .slice none 0 0, .int .u32 0, .int .i64 0, .bool false] 39)) := HB.trans (hbs.mono HB.size)
          replace hf := hf.below hbs hf.lt
          replace row := row.below hbs
          have hx : Blk (x51.alloc (.cells #[.int .i64 0, .slice none 0 0, .int .u32 0, .int .i64 0, .bool false] 39)) x51.heap.size 39 #[.int .i64 0, .slice none 0 0, .int .u32 0, .int .i64 0, .bool false] := Blk.new x51 39 #[.int .i64 0, .slice none 0 0, .int .u32 0, .int .i64 0, .bool false]
          have kx : u8.heap.size ≤ x51.heap.size := HB.size
          generalize (x51.alloc (.cells #[.int .i64 0, .slice none 0 0, .int .u32 0, .int .i64 0, .bool false] 39)) = x61 at *
          clear HB hbs
          have HB := HB2
          clear HB2
          have hs100r := HB
          refine hKQ.out _ _ hs100r ?_
          clear hKQ KQ
          try simp only [Act.put, List.setIfInBounds_toArray, List.set_cons_zero, List.set_cons_succ]
          refine held_callA 2 (by rfl) (by kernel_rfl) (by rfl) (fun KQ hKQ => ?_)
          refine wp_app _ (.tmp 48) (.tmp 49) (by rfl) u8.heap.size _ 0 [] (by rfl) row _ A1 L.length c1 _ (by rfl) (by7.nx HB) (by omega) HB.size ?_
          intro vr x62 row2 hgr hdr
          clear hdr
          have hba := row.below_app hgr HB.size
          replace HB := HB.trans hba
          replace hx := hx.grown hgr (own_ne row hx (by decide))
          replace hf := hf.grown hgr (own_ne row hf (by decide))
          clear row hba hgr
          have row := row2
          clear row2
          rw [Nat.zero_add, List.nil_append] at row
          obtain ⟨Ar, cr, rfl, hnr, hcr, byr, _⟩ := row.any2
          clear hnr hcr byr
          have hs101r := HB
          refine hKQ.out _ _ hs101r ?_
          clear hKQ KQ
          try simp only [Act.put, List.setIfInBounds_toArray, List.set_cons_zero, List.set_cons_succ]
          refine held_callA 5 (by rfl) (by kernel_rfl) (by rfl) (fun KQ hKQ => ?_)
          refine wp_app _ (.tmp 50) (.tmp 52) (by rfl) u8.heap.size _ _ _ (by rfl) row _ A4 4 c1 _ (by rfl) (by4.nx HB) (by omega) HB.size ?_
          intro vr x63 row2 hgr hdr
          clear hdr
          have hba := row.below_app hgr HB.size
          replace HB := HB.trans hba
          replace hx := hx.grown hgr (own_ne row hx (by decide))
          replace hf := hf.grown hgr (own_ne row hf (by decide))
          clear row hba hgr
          have row := row2
          clear row2
          obtain ⟨Ar, cr, rfl, hnr, hcr, byr, _⟩ := row.any2
          have hs102r := HB
          refine hKQ.out _ _ hs102r ?_
          clear hKQ KQ
          try simp only [Act.put, List.setIfInBounds_toArray, List.set_cons_zero, List.set_cons_succ]
          refine held_callA 6 (by rfl) (by kernel_rfl) (by rfl) (fun KQ hKQ => ?_)
          go_simp
          refine (attrParse_any x63 Ar _ cr _ byr (by omega)).mono ?_
          rintro e x64 ⟨hb, hP⟩
          rw [E3.out] at hP
          obtain ⟨XX, dd, rfl, _, _, _⟩ := hP.no
          rw [show ([] : List UInt8).length = 0 from rfl]
          clear hP byr hnr hcr
          replace HB := HB.trans (hb.mono HB.size)
          replace hx := hx.below hb hx.lt
          replace hf := hf.below hb hf.lt
          clear row hb
          have hs103r := HB
          refine hKQ.out _ _ hs103r ?_
          clear hKQ KQ
          try simp only [Act.put, List.setIfInBounds_toArray, List.set_cons_zero, List.set_cons_succ]
          (refine held_takeA 7 (by rfl) ?_ (by kernel_rfl) (fun _ _ _ h => h) hs103r ?_ ?_; rotate_left; (focus (intro wq hSw; have hrd : ∀ b o, b < u8.heap.size → wq.cell? ⟨b, o, none⟩ = u8.cell? ⟨b, o, none⟩ := (fun b o h => hSw.cell (p := ⟨b, o, none⟩) h); go_simp; try with_reducible rfl; done)); try simp only [Act.put, List.setIfInBounds_toArray, List.set_cons_zero, List.set_cons_succ])
          (refine held_takeA 8 (by rfl) ?_ (by kernel_rfl) (fun _ _ _ h => h) hs103r ?_ ?_; rotate_left; (focus (intro wq hSw; have hrd : ∀ b o, b < u8.heap.size → wq.cell? ⟨b, o, none⟩ = u8.cell? ⟨b, o, none⟩ := (fun b o h => hSw.cell (p := ⟨b, o, none⟩) h); go_simp; try with_reducible rfl; done)); try simp only [Act.put, List.setIfInBounds_toArray, List.set_cons_zero, List.set_cons_succ])
          (refine held_takeA 9 (by rfl) ?_ (by kernel_rfl) (fun _ _ _ h => h) hs103r ?_ ?_; rotate_left; (focus (intro wq hSw; have hrd : ∀ b o, b < u8.heap.size → wq.cell? ⟨b, o, none⟩ = u8.cell? ⟨b, o, none⟩ := (fun b o h => hSw.cell (p := ⟨b, o, none⟩) h); go_simp; try with_reducible rfl; done)); try simp only [Act.put, List.setIfInBounds_toArray, List.set_cons_zero, List.set_cons_succ])
          refine held_callA 12 (by rfl) (by kernel_rfl) (by rfl) (fun KQ hKQ => ?_)
          refine wp_store_blk hx 39 (.tmp 10) (.tmp 55) (by rfl) (by rfl) (by rfl) (by rfl) (by exact hi) (by simp [Value.oneCell']) ?_
          intro wy hx2 hgx
          replace hf := hf.grown hgx (blk_ne hf hx (by decide))
          replace HB := below_own HB hgx HB.size kx
          have hs104r := HB
          refine hKQ.out _ _ hs104r ?_
          clear hKQ KQ
          try simp only [Act.put]
          refine held_callA 13 (by rfl) (by kernel_rfl) (by rfl) (fun KQ hKQ => ?_)
          refine wp_store_blk hf 31 (.tmp 11) (.tmp 56) (by rfl) (by rfl) (by rfl) (by rfl) (by exact hj) (by simp [Value.oneCell']) ?_
          intro wz hf2 hgf
          replace HB := below_own HB hgf HB.size kf
          have hs105r := HB
          refine hKQ.out _ _ hs105r ?_
          clear hKQ KQ
          try simp only [Act.put]
          refine wpAnyH_done (by kernel_rfl) ?_ _
          try refine NoPanic.normal ?_
          go_wp2_with fail
          go_meet
          exact left8_mk HB hf2
    · skip
      go_simp
      have hbs : Below u8.heap.size u8 (u8.alloc (.cells #[.int .i64 0, .slice none 0 0, .int .u32 0, .int .i64 0, .bool false] 39)).drew := ((Below.refl u8.heap.size u8).alloc (Nat.le_refl _) (.cells #[.int .i64 0, .slice none 0 0, .int .u32 0, .int .i64 0, .bool false] 39)).drew
      have HB2 : Below u8.heap.size u8 (u8.alloc (.cells #[.int .i64 0, .slice none 0 0, .int .u32 0, .int .i64 0, .bool false] 39)).drew := hbs
      have hx : Blk (u8.alloc (.cells #[.int .i64 0, .slice none 0 0, .int .u32 0, .int .i64 0, .bool false] 39)).drew u8.heap.size 39 #[.int .i64 0, .slice none 0 0, .int .u32 0, .int .i64 0, .bool false] := Blk.new u8 39 #[.int .i64 0, .slice none 0 0, .int .u32 0, .int .i64 0, .bool false]
      have kx : u8.heap.size ≤ u8.heap.size := Nat.le_refl _
      generalize (u8.alloc (.cells #[.int .i64 0, .slice none 0 0, .int .u32 0, .int .i64 0, .bool false] 39)).drew = x65 at *
      clear HB hbs
      have HB := HB2
      clear HB2
      have hs106r := HB
      refine hKQ.out _ _ hs106r ?_
      clear hKQ KQ
      try simp only [Act.put, List.setIfInBounds_toArray, List.set_cons_zero, List.set_cons_succ]
      refine held_two 0 11 (by rfl) (by rfl) (by kernel_rfl) (by rfl) (by rfl) (fun KQ hKQ => ?_) (fun KQ hKQ => ?_)
      · skip
        go_simp
        have hbs : Below x65.heap.size x65 (x65.alloc (.cells #[] 5)) := ((Below.refl x65.heap.size x65).alloc (Nat.le_refl _) (.cells #[] 5))
        have HB2 : Below u8.heap.size u8 (x65.alloc (.cells #[] 5)) := HB.trans (hbs.mono HB.size)
        replace hx := hx.below hbs hx.lt
        have row : OwnB (x65.alloc (.cells #[] 5)) u8.heap.size (.slice (some ⟨x65.heap.size, 0, none⟩) 0 0) 0 [] := by
          have := OwnB.lit (base := x65.heap.size) x65 [] (Nat.le_refl _) (by simp)
          rw [show byCells [] = #[] from rfl] at this
          exact OwnB.less this HB.size
        generalize (x65.alloc (.cells #[] 5)) = x66 at *
        clear HB hbs
        have HB := HB2
        clear HB2
        have hs107r := HB
        refine hKQ.out _ _ hs107r ?_
        clear hKQ KQ
        try simp only [Act.put, List.setIfInBounds_toArray, List.set_cons_zero, List.set_cons_succ]
        refine held_two 2 11 (by rfl) (by rfl) (by kernel_rfl) (by rfl) (by rfl) (fun KQ hKQ => ?_) (fun KQ hKQ => ?_)
        · skip
          refine wp_app _ (.tmp 48) (.tmp 49) (by rfl) u8.heap.size _ 0 [] (by rfl) row _ A1 L.length c1 _ (by rfl) (by7.nx HB) (by omega) HB.size ?_
          intro vr x67 row2 hgr hdr
          clear hdr
          have hba := row.below_app hgr HB.size
          replace HB := HB.trans hba
          replace hx := hx.grown hgr (own_ne row hx (by decide))
          clear row hba hgr
          have row := row2
          clear row2
          rw [Nat.zero_add, List.nil_append] at row
          obtain ⟨Ar, cr, rfl, hnr, hcr, byr, _⟩ := row.any2
          clear hnr hcr byr
          have hs108r := HB
          refine hKQ.out _ _ hs108r ?_
          clear hKQ KQ
          try simp only [Act.put, List.setIfInBounds_toArray, List.set_cons_zero, List.set_cons_succ]
          refine held_two 5 11 (by rfl) (by rfl) (by kernel_rfl) (by rfl) (by rfl) (fun KQ hKQ => ?_) (fun KQ hKQ => ?_)
          · skip
            refine wp_app _ (.tmp 50) (.tmp 52) (by rfl) u8.heap.size _ _ _ (by rfl) row _ A4 4 c1 _ (by rfl) (by4.nx HB) (by omega) HB.size ?_
            intro vr x68 row2 hgr hdr
            clear hdr
            have hba := row.below_app hgr HB.size
            replace HB := HB.trans hba
            replace hx := hx.grown hgr (own_ne row hx (by decide))
            clear row hba hgr
            have row := row2
            clear row2
            obtain ⟨Ar, cr, rfl, hnr, hcr, byr, _⟩ := row.any2
            have hs109r := HB
            refine hKQ.out _ _ hs109r ?_
            clear hKQ KQ
            try simp only [Act.put, List.setIfInBounds_toArray, List.set_cons_zero, List.set_cons_succ]
            refine held_two 6 11 (by rfl) (by rfl) (by kernel_rfl) (by rfl) (by rfl) (fun KQ hKQ => ?_) (fun KQ hKQ => ?_)
            · skip
              go_simp
              refine (attrParse_any x68 Ar _ cr _ byr (by omega)).mono ?_
              rintro e x69 ⟨hb, hP⟩
              rw [E3.out] at hP
              obtain ⟨XX, dd, rfl, _, _, _⟩ := hP.no
              rw [show ([] : List UInt8).length = 0 from rfl]
              clear hP byr hnr hcr
              replace HB := HB.trans (hb.mono HB.size)
              replace hx := hx.below hb hx.lt
              clear row hb
              have hs110r := HB
              refine hKQ.out _ _ hs110r ?_
              clear hKQ KQ
              try simp only [Act.put, List.setIfInBounds_toArray, List.set_cons_zero, List.set_cons_succ]
              (refine held_takeA 7 (by rfl) ?_ (by kernel_rfl) (fun _ _ _ h => h) hs110r ?_ ?_; rotate_left; (focus (intro wq hSw; have hrd : ∀ b o, b < u8.heap.size → wq.cell? ⟨b, o, none⟩ = u8.cell? ⟨b, o, none⟩ := (fun b o h => hSw.cell (p := ⟨b, o, none⟩) h); go_simp; try with_reducible rfl; done)); try simp only [Act.put, List.setIfInBounds_toArray, List.set_cons_zero, List.set_cons_succ])
              (refine held_takeA 8 (by rfl) ?_ (by kernel_rfl) (fun _ _ _ h => h) hs110r ?_ ?_; rotate_left; (focus (intro wq hSw; have hrd : ∀ b o, b < u8.heap.size → wq.cell? ⟨b, o, none⟩ = u8.cell? ⟨b, o, none⟩ := (fun b o h => hSw.cell (p := ⟨b, o, none⟩) h); go_simp; try with_reducible rfl; done)); try simp only [Act.put, List.setIfInBounds_toArray, List.set_cons_zero, List.set_cons_succ])
              (refine held_takeA 9 (by rfl) ?_ (by kernel_rfl) (fun _ _ _ h => h) hs110r ?_ ?_; rotate_left; (focus (intro wq hSw; have hrd : ∀ b o, b < u8.heap.size → wq.cell? ⟨b, o, none⟩ = u8.cell? ⟨b, o, none⟩ := (fun b o h => hSw.cell (p := ⟨b, o, none⟩) h); go_simp; try with_reducible rfl; done)); try simp only [Act.put, List.setIfInBounds_toArray, List.set_cons_zero, List.set_cons_succ])
              refine held_callA 11 (by rfl) (by kernel_rfl) (by rfl) (fun KQ hKQ => ?_)
              go_simp
              have hbs : Below x69.heap.size x69 (x69.alloc (.cells #[.int .i64 0, .int .i64 0, .slice none 0 0] 31)) := ((Below.refl x69.heap.size x69).alloc (Nat.le_refl _) (.cells #[.int .i64 0, .int .i64 0, .slice none 0 0] 31))
              have HB2 : Below u8.heap.size u8 (x69.alloc (.cells #[.int .i64 0, .int .i64 0, .slice none 0 0] 31)) := HB.trans (hbs.mono HB.size)
              replace hx := hx.below hbs hx.lt
              have hf : Blk (x69.alloc (.cells #[.int .i64 0, .int .i64 0, .slice none 0 0] 31)) x69.heap.size 31 #[.int .i64 0, .int .i64 0, .slice none 0 0] := Blk.new x69 31 #[.int .i64 0, .int .i64 0, .slice none 0 0]
              have kf : u8.heap.size ≤ x69.heap.size := HB.size
              generalize (x69.alloc (.cells #[.int .i64 0, .int .i64 0, .slice none 0 0] 31)) = x70 at *
              clear HB hbs
              have HB := HB2
              clear HB2
              have hs111r := HB
              refine hKQ.out _ _ hs111r ?_
              clear hKQ KQ
              try simp only [Act.put, List.setIfInBounds_toArray, List.set_cons_zero, List.set_cons_succ]
              refine held_callA 12 (by rfl) (by kernel_rfl) (by rfl) (fun KQ hKQ => ?_)
              refine wp_store_blk hx 39 (.tmp 10) (.tmp 55) (by rfl) (by rfl) (by rfl) (by rfl) (by exact hi) (by simp [Value.oneCell']) ?_
              intro wy hx2 hgx
              replace hf := hf.grown hgx (blk_ne hf hx (by decide))
              replace HB := below_own HB hgx HB.size kx
              have hs112r := HB
              refine hKQ.out _ _ hs112r ?_
              clear hKQ KQ
              try simp only [Act.put]
              refine held_callA 13 (by rfl) (by kernel_rfl) (by rfl) (fun KQ hKQ => ?_)
              refine wp_store_blk hf 31 (.tmp 11) (.tmp 56) (by rfl) (by rfl) (by rfl) (by rfl) (by exact hj) (by simp [Value.oneCell']) ?_
              intro wz hf2 hgf
              replace HB := below_own HB hgf HB.size kf
              have hs113r := HB
              refine hKQ.out _ _ hs113r ?_
              clear hKQ KQ
              try simp only [Act.put]
              refine wpAnyH_done (by kernel_rfl) ?_ _
              try refine NoPanic.normal ?_
              go_wp2_with fail
              go_meet
              exact left8_mk HB hf2
            · skip
              go_simp
              have hbs : Below x68.heap.size x68 (x68.alloc (.cells #[.int .i64 0, .int .i64 0, .slice none 0 0] 31)) := ((Below.refl x68.heap.size x68).alloc (Nat.le_refl _) (.cells #[.int .i64 0, .int .i64 0, .slice none 0 0] 31))
              have HB2 : Below u8.heap.size u8 (x68.alloc (.cells #[.int .i64 0, .int .i64 0, .slice none 0 0] 31)) := HB.trans (hbs.mono HB.size)
              replace hx := hx.below hbs hx.lt
              replace row := row.below hbs
              replace byr := byr.nx hbs
              have hf : Blk (x68.alloc (.cells #[.int .i64 0, .int .i64 0, .slice none 0 0] 31)) x68.heap.size 31 #[.int .i64 0, .int .i64 0, .slice none 0 0] := Blk.new x68 31 #[.int .i64 0, .int .i64 0, .slice none 0 0]
              have kf : u8.heap.size ≤ x68.heap.size := HB.size
              generalize (x68.alloc (.cells #[.int .i64 0, .int .i64 0, .slice none 0 0] 31)) = x71 at *
              clear HB hbs
              have HB := HB2
              clear HB2
              have hs114r := HB
              refine hKQ.out _ _ hs114r ?_
              clear hKQ KQ
              try simp only [Act.put, List.setIfInBounds_toArray, List.set_cons_zero, List.set_cons_succ]
              refine held_callA 6 (by rfl) (by kernel_rfl) (by rfl) (fun KQ hKQ => ?_)
              go_simp
              refine (attrParse_any x71 Ar _ cr _ byr (by omega)).mono ?_
              rintro e x72 ⟨hb, hP⟩
              rw [E3.out] at hP
              obtain ⟨XX, dd, rfl, _, _, _⟩ := hP.no
              rw [show ([] : List UInt8).length = 0 from rfl]
              clear hP byr hnr hcr
              replace HB := HB.trans (hb.mono HB.size)
              replace hx := hx.below hb hx.lt
              replace hf := hf.below hb hf.lt
              clear row hb
              have hs115r := HB
              refine hKQ.out _ _ hs115r ?_
              clear hKQ KQ
              try simp only [Act.put, List.setIfInBounds_toArray, List.set_cons_zero, List.set_cons_succ]
              (refine held_takeA 7 (by rfl) ?_ (by kernel_rfl) (fun _ _ _ h => h) hs115r ?_ ?_; rotate_left; (focus (intro wq hSw; have hrd : ∀ b o, b < u8.heap.size → wq.cell? ⟨b, o, none⟩ = u8.cell? ⟨b, o, none⟩ := (fun b o h => hSw.cell (p := ⟨b, o, none⟩) h); go_simp; try with_reducible rfl; done)); try simp only [Act.put, List.setIfInBounds_toArray, List.set_cons_zero, List.set_cons_succ])
              (refine held_takeA 8 (by rfl) ?_ (by kernel_rfl) (fun _ _ _ h => h) hs115r ?_ ?_; rotate_left; (focus (intro wq hSw; have hrd : ∀ b o, b < u8.heap.size → wq.cell? ⟨b, o, none⟩ = u8.cell? ⟨b, o, none⟩ := (fun b o h => hSw.cell (p := ⟨b, o, none⟩) h); go_simp; try with_reducible rfl; done)); try simp only [Act.put, List.setIfInBounds_toArray, List.set_cons_zero, List.set_cons_succ])
              (refine held_takeA 9 (by rfl) ?_ (by kernel_rfl) (fun _ _ _ h => h) hs115r ?_ ?_; rotate_left; (focus (intro wq hSw; have hrd : ∀ b o, b < u8.heap.size → wq.cell? ⟨b, o, none⟩ = u8.cell? ⟨b, o, none⟩ := (fun b o h => hSw.cell (p := ⟨b, o, none⟩) h); go_simp; try with_reducible rfl; done)); try simp only [Act.put, List.setIfInBounds_toArray, List.set_cons_zero, List.set_cons_succ])
              refine held_callA 12 (by rfl) (by kernel_rfl) (by rfl) (fun KQ hKQ => ?_)
              refine wp_store_blk hx 39 (.tmp 10) (.tmp 55) (by rfl) (by rfl) (by rfl) (by rfl) (by exact hi) (by simp [Value.oneCell']) ?_
              intro wy hx2 hgx
              replace hf := hf.grown hgx (blk_ne hf hx (by decide))
              replace HB := below_own HB hgx HB.size kx
              have hs116r := HB
              refine hKQ.out _ _ hs116r ?_
              clear hKQ KQ
              try simp only [Act.put]
              refine held_callA 13 (by rfl) (by kernel_rfl) (by rfl) (fun KQ hKQ => ?_)
              refine wp_store_blk hf 31 (.tmp 11) (.tmp 56) (by rfl) (by rfl) (by rfl) (by rfl) (by exact hj) (by simp [Value.oneCell']) ?_
              intro wz hf2 hgf
              replace HB := below_own HB hgf HB.size kf
              have hs117r := HB
              refine hKQ.out _ _ hs117r ?_
              clear hKQ KQ
              try simp only [Act.put]
              refine wpAnyH_done (by kernel_rfl) ?_ _
              try refine NoPanic.normal ?_
              go_wp2_with fail
              go_meet
              exact left8_mk HB hf2
          · skip
            go_simp
            have hbs : Below x67.heap.size x67 (x67.alloc (.cells #[.int .i64 0, .int .i64 0, .slice none 0 0] 31)) := ((Below.refl x67.heap.size x67).alloc (Nat.le_refl _) (.cells #[.int .i64 0, .int .i64 0, .slice none 0 0] 31))
            have HB2 : Below u8.heap.size u8 (x67.alloc (.cells #[.int .i64 0, .int .i64 0, .slice none 0 0] 31)) := HB.trans (hbs.mono HB.size)
            replace hx := hx.below hbs hx.lt
            replace row := row.below hbs
            have hf : Blk (x67.alloc (.cells #[.int .i64 0, .int .i64 0, .slice none 0 0] 31)) x67.heap.size 31 #[.int .i64 0, .int .i64 0, .slice none 0 0] := Blk.new x67 31 #[.int .i64 0, .int .i64 0, .slice none 0 0]
            have kf : u8.heap.size ≤ x67.heap.size := HB.size
            generalize (x67.alloc (.cells #[.int .i64 0, .int .i64 0, .slice none 0 0] 31)) = x73 at *
            clear HB hbs
            have HB := HB2
            clear HB2
            have hs118r := HB
            refine hKQ.out _ _ hs118r ?_
            clear hKQ KQ
            try simp only [Act.put, List.setIfInBounds_toArray, List.set_cons_zero, List.set_cons_succ]
            refine held_callA 5 (by rfl) (by kernel_rfl) (by rfl) (fun KQ hKQ => ?_)
            refine wp_app _ (.tmp 50) (.tmp 52) (by rfl) u8.heap.size _ _ _ (by rfl) row _ A4 4 c1 _ (by rfl) (by4.nx HB) (by omega) HB.size ?_
            intro vr x74 row2 hgr hdr
            clear hdr
            have hba := row.below_app hgr HB.size
            replace HB := HB.trans hba
            replace hx := hx.grown hgr (own_ne row hx (by decide))
            replace hf := hf.grown hgr (own_ne row hf (by decide))
            clear row hba hgr
            have row := row2
            clear row2
            obtain ⟨Ar, cr, rfl, hnr, hcr, byr, _⟩ := row.any2
            have hs119r := HB
            refine hKQ.out _ _ hs119r ?_
            clear hKQ KQ
            try simp only [Act.put, List.setIfInBounds_toArray, List.set_cons_zero, List.set_cons_succ]
            refine held_callA 6 (by rfl) (by kernel_rfl) (by rfl) (fun KQ hKQ => ?_)
            go_simp
            refine (attrParse_any x74 Ar _ cr _ byr (by omega)).mono ?_
            rintro e x75 ⟨hb, hP⟩
            rw [E3.out] at hP
            obtain ⟨XX, dd, rfl, _, _, _⟩ := hP.no
            rw [show ([] : List UInt8).length = 0 from rfl]
            clear hP byr hnr hcr
            replace HB := HB.trans (hb.mono HB.size)
            replace hx := hx.below hb hx.lt
            replace hf := hf.below hb hf.lt
            clear row hb
            have hs120r := HB
            refine hKQ.out _ _ hs120r ?_
            clear hKQ KQ
            try simp only [Act.put, List.setIfInBounds_toArray, List.set_cons_zero, List.set_cons_succ]
            (refine held_takeA 7 (by rfl) ?_ (by kernel_rfl) (fun _ _ _ h => h) hs120r ?_ ?_; rotate_left; (focus (intro wq hSw; have hrd : ∀ b o, b < u8.heap.size → wq.cell? ⟨b, o, none⟩ = u8.cell? ⟨b, o, none⟩ := (fun b o h => hSw.cell (p := ⟨b, o, none⟩) h); go_simp; try with_reducible rfl; done)); try simp only [Act.put, List.setIfInBounds_toArray, List.set_cons_zero, List.set_cons_succ])
            (refine held_takeA 8 (by rfl) ?_ (by kernel_rfl) (fun _ _ _ h => h) hs120r ?_ ?_; rotate_left; (focus (intro wq hSw; have hrd : ∀ b o, b < u8.heap.size → wq.cell? ⟨b, o, none⟩ = u8.cell? ⟨b, o, none⟩ := (fun b o h => hSw.cell (p := ⟨b, o, none⟩) h); go_simp; try with_reducible rfl; done)); try simp only [Act.put, List.setIfInBounds_toArray, List.set_cons_zero, List.set_cons_succ])
            (refine held_takeA 9 (by rfl) ?_ (by kernel_rfl) (fun _ _ _ h => h) hs120r ?_ ?_; rotate_left; (focus (intro wq hSw; have hrd : ∀ b o, b < u8.heap.size → wq.cell? ⟨b, o, none⟩ = u8.cell? ⟨b, o, none⟩ := (fun b o h => hSw.cell (p := ⟨b, o, none⟩) h); go_simp; try with_reducible rfl; done)); try simp only [Act.put, List.setIfInBounds_toArray, List.set_cons_zero, List.set_cons_succ])
            refine held_callA 12 (by rfl) (by kernel_rfl) (by rfl) (fun KQ hKQ => ?_)
            refine wp_store_blk hx 39 (.tmp 10) (.tmp 55) (by rfl) (by rfl) (by rfl) (by rfl) (by exact hi) (by simp [Value.oneCell']) ?_
            intro wy hx2 hgx
            replace hf := hf.grown hgx (blk_ne hf hx (by decide))
            replace HB := below_own HB hgx HB.size kx
            have hs121r := HB
            refine hKQ.out _ _ hs121r ?_
            clear hKQ KQ
            try simp only [Act.put]
            refine held_callA 13 (by rfl) (by kernel_rfl) (by rfl) (fun KQ hKQ => ?_)
            refine wp_store_blk hf 31 (.tmp 11) (.tmp 56) (by rfl) (by rfl) (by rfl) (by rfl) (by exact hj) (by simp [Value.oneCell']) ?_
            intro wz hf2 hgf
            replace HB := below_own HB hgf HB.size kf
            have hs122r := HB
            refine hKQ.out _ _ hs122r ?_
            clear hKQ KQ
            try simp only [Act.put]
            refine wpAnyH_done (by kernel_rfl) ?_ _
            try refine NoPanic.normal ?_
            go_wp2_with fail
            go_meet
            exact left8_mk HB hf2
        · skip
          go_simp
          have hbs : Below x66.heap.size x66 (x66.alloc (.cells #[.int .i64 0, .int .i64 0, .slice none 0 0] 31)) := ((Below.refl x66.heap.size x66).alloc (Nat.le_refl _) (.cells #[.int .i64 0, .int .i64 0, .slice none 0 0] 31))
          have HB2 : Below u8.heap.size u8 (x66.alloc (.cells #[.int .i64 0, .int .i64 0, .slice none 0 0] 31)) := HB.trans (hbs.mono HB.size)
          replace hx := hx.below hbs hx.lt
          replace row := row.below hbs
          have hf : Blk (x66.alloc (.cells #[.int .i64 0, .int .i64 0, .slice none 0 0] 31)) x66.heap.size 31 #[.int .i64 0, .int .i64 0, .slice none 0 0] := Blk.new x66 31 #[.int .i64 0, .int .i64 0, .slice none 0 0]
          have kf : u8.heap.size ≤ x66.heap.size := HB.size
          generalize (x66.alloc (.cells #[.int .i64 0, .int .i64 0, .slice none 0 0] 31)) = x76 at *
          clear HB hbs
          have HB := HB2
          clear HB2
          have hs123r := HB
          refine hKQ.out _ _ hs123r ?_
          clear hKQ KQ
          try simp only [Act.put, List.setIfInBounds_toArray, List.set_cons_zero, List.set_cons_succ]
          refine held_callA 2 (by rfl) (by kernel_rfl) (by rfl) (fun KQ hKQ => ?_)
          refine wp_app _ (.tmp 48) (.tmp 49) (by rfl) u8.heap.size _ 0 [] (by rfl) row _ A1 L.length c1 _ (by rfl) (by7.nx HB) (by omega) HB.size ?_
          intro vr x77 row2 hgr hdr
          clear hdr
          have hba := row.below_app hgr HB.size
          replace HB := HB.trans hba
          replace hx := hx.grown hgr (own_ne row hx (by decide))
          replace hf := hf.grown hgr (own_ne row hf (by decide))
          clear row hba hgr
          have row := row2
          clear row2
          rw [Nat.zero_add, List.nil_append] at row
          obtain ⟨Ar, cr, rfl, hnr, hcr, byr, _⟩ := row.any2
          clear hnr hcr byr
          have hs124r := HB
          refine hKQ.out _ _ hs124r ?_
          clear hKQ KQ
          try simp only [Act.put, List.setIfInBounds_toArray, List.set_cons_zero, List.set_cons_succ]
          refine held_callA 5 (by rfl) (by kernel_rfl) (by rfl) (fun KQ hKQ => ?_)
          refine wp_app _ (.tmp 50) (.tmp 52) (by rfl) u8.heap.size _ _ _ (by rfl) row _ A4 4 c1 _ (by rfl) (by4.nx HB) (by omega) HB.size ?_
          intro vr x78 row2 hgr hdr
          clear hdr
          have hba := row.below_app hgr HB.size
          replace HB := HB.trans hba
          replace hx := hx.grown hgr (own_ne row hx (by decide))
          replace hf := hf.grown hgr (own_ne row hf (by decide))
          clear row hba hgr
          have row := row2
          clear row2
          obtain ⟨Ar, cr, rfl, hnr, hcr, byr, _⟩ := row.any2
          have hs125r := HB
          refine hKQ.out _ _ hs125r ?_
          clear hKQ KQ
          try simp only [Act.put, List.setIfInBounds_toArray, List.set_cons_zero, List.set_cons_succ]
          refine held_callA 6 (by rfl) (by kernel_rfl) (by rfl) (fun KQ hKQ => ?_)
          go_simp
          refine (attrParse_any x78 Ar _ cr _ byr (by omega)).mono ?_
          rintro e x79 ⟨hb, hP⟩
          rw [E3.out] at hP
          obtain ⟨XX, dd, rfl, _, _, _⟩ := hP.no
          rw [show ([] : List UInt8).length = 0 from rfl]
          clear hP byr hnr hcr
          replace HB := HB.trans (hb.mono HB.size)
          replace hx := hx.below hb hx.lt
          replace hf := hf.below hb hf.lt
          clear row hb
          have hs126r := HB
          refine hKQ.out _ _ hs126r ?_
          clear hKQ KQ
          try simp only [Act.put, List.setIfInBounds_toArray, List.set_cons_zero, List.set_cons_succ]
          (refine held_takeA 7 (by rfl) ?_ (by kernel_rfl) (fun _ _ _ h => h) hs126r ?_ ?_; rotate_left; (focus (intro wq hSw; have hrd : ∀ b o, b < u8.heap.size → wq.cell? ⟨b, o, none⟩ = u8.cell? ⟨b, o, none⟩ := (fun b o h => hSw.cell (p := ⟨b, o, none⟩) h); go_simp; try with_reducible rfl; done)); try simp only [Act.put, List.setIfInBounds_toArray, List.set_cons_zero, List.set_cons_succ])
          (refine held_takeA 8 (by rfl) ?_ (by kernel_rfl) (fun _ _ _ h => h) hs126r ?_ ?_; rotate_left; (focus (intro wq hSw; have hrd : ∀ b o, b < u8.heap.size → wq.cell? ⟨b, o, none⟩ = u8.cell? ⟨b, o, none⟩ := (fun b o h => hSw.cell (p := ⟨b, o, none⟩) h); go_simp; try with_reducible rfl; done)); try simp only [Act.put, List.setIfInBounds_toArray, List.set_cons_zero, List.set_cons_succ])
          (refine held_takeA 9 (by rfl) ?_ (by kernel_rfl) (fun _ _ _ h => h) hs126r ?_ ?_; rotate_left; (focus (intro wq hSw; have hrd : ∀ b o, b < u8.heap.size → wq.cell? ⟨b, o, none⟩ = u8.cell? ⟨b, o, none⟩ := (fun b o h => hSw.cell (p := ⟨b, o, none⟩) h); go_simp; try with_reducible rfl; done)); try simp only [Act.put, List.setIfInBounds_toArray, List.set_cons_zero, List.set_cons_succ])
          refine held_callA 12 (by rfl) (by kernel_rfl) (by rfl) (fun KQ hKQ => ?_)
          refine wp_store_blk hx 39 (.tmp 10) (.tmp 55) (by rfl) (by rfl) (by rfl) (by rfl) (by exact hi) (by simp [Value.oneCell']) ?_
          intro wy hx2 hgx
          replace hf := hf.grown hgx (blk_ne hf hx (by decide))
          replace HB := below_own HB hgx HB.size kx
          have hs127r := HB
          refine hKQ.out _ _ hs127r ?_
          clear hKQ KQ
          try simp only [Act.put]
          refine held_callA 13 (by rfl) (by kernel_rfl) (by rfl) (fun KQ hKQ => ?_)
          refine wp_store_blk hf 31 (.tmp 11) (.tmp 56) (by rfl) (by rfl) (by rfl) (by rfl) (by exact hj) (by simp [Value.oneCell']) ?_
          intro wz hf2 hgf
          replace HB := below_own HB hgf HB.size kf
          have hs128r := HB
          refine hKQ.out _ _ hs128r ?_
          clear hKQ KQ
          try simp only [Act.put]
          refine wpAnyH_done (by kernel_rfl) ?_ _
          try refine NoPanic.normal ?_
          go_wp2_with fail
          go_meet
          exact left8_mk HB hf2
      · skip
        go_simp
        have hbs : Below x65.heap.size x65 (x65.alloc (.cells #[.int .i64 0, .int .i64 0, .slice none 0 0] 31)) := ((Below.refl x65.heap.size x65).alloc (Nat.le_refl _) (.cells #[.int .i64 0, .int .i64 0, .slice none 0 0] 31))
        have HB2 : Below u8.heap.size u8 (x65.alloc (.cells #[.int .i64 0, .int .i64 0, .slice none 0 0] 31)) := HB.trans (hbs.mono HB.size)
        replace hx := hx.below hbs hx.lt
        have hf : Blk (x65.alloc (.cells #[.int .i64 0, .int .i64 0, .slice none 0 0] 31)) x65.heap.size 31 #[.int .i64 0, .int .i64 0, .slice none 0 0] := Blk.new x65 31 #[.int .i64 0, .int .i64 0, .slice none 0 0]
        have kf : u8.heap.size ≤ x65.heap.size := HB.size
        generalize (x65.alloc (.cells #[.int .i64 0, .int .i64 0, .slice none 0 0] 31)) = x80 at *
        clear HB hbs
        have HB := HB2
        clear HB2
        have hs129r := HB
        refine hKQ.out _ _ hs129r ?_
        clear hKQ KQ
        try simp only [Act.put, List.setIfInBounds_toArray, List.set_cons_zero, List.set_cons_succ]
        refine held_callA 0 (by rfl) (by kernel_rfl) (by rfl) (fun KQ hKQ => ?_)
        go_simp
        have hbs : Below x80.heap.size x80 (x80.alloc (.cells #[] 5)) := ((Below.refl x80.heap.size x80).alloc (Nat.le_refl _) (.cells #[] 5))
        have HB2 : Below u8.heap.size u8 (x80.alloc (.cells #[] 5)) := HB.trans (hbs.mono HB.size)
        replace hx := hx.below hbs hx.lt
        replace hf := hf.below hbs hf.lt
        have row : OwnB (x80.alloc (.cells #[] 5)) u8.heap.size (.slice (some ⟨x80.heap.size, 0, none⟩) 0 0) 0 [] := by
          have := OwnB.lit (base := x80.heap.size) x80 [] (Nat.le_refl _) (by simp)
          rw [show byCells [] = #[] from rfl] at this
          exact OwnB.less this HB.size
        generalize (x80.alloc (.cells #[] 5)) = x81 at *
        clear HB hbs
        have HB := HB2
        clear HB2
        have hs130r := HB
        refine hKQ.out _ _ hs130r ?_
        clear hKQ KQ
        try simp only [Act.put, List.setIfInBounds_toArray, List.set_cons_zero, List.set_cons_succ]
        refine held_callA 2 (by rfl) (by kernel_rfl) (by rfl) (fun KQ hKQ => ?_)
        refine wp_app _ (.tmp 48) (.tmp 49) (by rfl) u8.heap.size _ 0 [] (by rfl) row _ A1 L.length c1 _ (by rfl) (by7.nx HB) (by omega) HB.size ?_
        intro vr x82 row2 hgr hdr
        clear hdr
        have hba := row.below_app hgr HB.size
        replace HB := HB.trans hba
        replace hx := hx.grown hgr (own_ne row hx (by decide))
        replace hf := hf.grown hgr (own_ne row hf (by decide))
        clear row hba hgr
        have row := row2
        clear row2
        rw [Nat.zero_add, List.nil_append] at row
        obtain ⟨Ar, cr, rfl, hnr, hcr, byr, _⟩ := row.any2
        clear hnr hcr byr
        have hs131r := HB
        refine hKQ.out _ _ hs131r ?_
        clear hKQ KQ
        try simp only [Act.put, List.setIfInBounds_toArray, List.set_cons_zero, List.set_cons_succ]
        refine held_callA 5 (by rfl) (by kernel_rfl) (by rfl) (fun KQ hKQ => ?_)
        refine wp_app _ (.tmp 50) (.tmp 52) (by rfl) u8.heap.size _ _ _ (by rfl) row _ A4 4 c1 _ (by rfl) (by4.nx HB) (by omega) HB.size ?_
        intro vr x83 row2 hgr hdr
        clear hdr
        have hba := row.below_app hgr HB.size
        replace HB := HB.trans hba
        replace hx := hx.grown hgr (own_ne row hx (by decide))
        replace hf := hf.grown hgr (own_ne row hf (by decide))
        clear row hba hgr
        have row := row2
        clear row2
        obtain ⟨Ar, cr, rfl, hnr, hcr, byr, _⟩ := row.any2
        have hs132r := HB
        refine hKQ.out _ _ hs132r ?_
        clear hKQ KQ
        try simp only [Act.put, List.setIfInBounds_toArray, List.set_cons_zero, List.set_cons_succ]
        refine held_callA 6 (by rfl) (by kernel_rfl) (by rfl) (fun KQ hKQ => ?_)
        go_simp
        refine (attrParse_any x83 Ar _ cr _ byr (by omega)).mono ?_
        rintro e x84 ⟨hb, hP⟩
        rw [E3.out] at hP
        obtain ⟨XX, dd, rfl, _, _, _⟩ := hP.no
        rw [show ([] : List UInt8).length = 0 from rfl]
        clear hP byr hnr hcr
        replace HB := HB.trans (hb.mono HB.size)
        replace hx := hx.below hb hx.lt
        replace hf := hf.below hb hf.lt
        clear row hb
        have hs133r := HB
        refine hKQ.out _ _ hs133r ?_
        clear hKQ KQ
        try simp only [Act.put, List.setIfInBounds_toArray, List.set_cons_zero, List.set_cons_succ]
        (refine held_takeA 7 (by rfl) ?_ (by kernel_rfl) (fun _ _ _ h => h) hs133r ?_ ?_; rotate_left; (focus (intro wq hSw; have hrd : ∀ b o, b < u8.heap.size → wq.cell? ⟨b, o, none⟩ = u8.cell? ⟨b, o, none⟩ := (fun b o h => hSw.cell (p := ⟨b, o, none⟩) h); go_simp; try with_reducible rfl; done)); try simp only [Act.put, List.setIfInBounds_toArray, List.set_cons_zero, List.set_cons_succ])
        (refine held_takeA 8 (by rfl) ?_ (by kernel_rfl) (fun _ _ _ h => h) hs133r ?_ ?_; rotate_left; (focus (intro wq hSw; have hrd : ∀ b o, b < u8.heap.size → wq.cell? ⟨b, o, none⟩ = u8.cell? ⟨b, o, none⟩ := (fun b o h => hSw.cell (p := ⟨b, o, none⟩) h); go_simp; try with_reducible rfl; done)); try simp only [Act.put, List.setIfInBounds_toArray, List.set_cons_zero, List.set_cons_succ])
        (refine held_takeA 9 (by rfl) ?_ (by kernel_rfl) (fun _ _ _ h => h) hs133r ?_ ?_; rotate_left; (focus (intro wq hSw; have hrd : ∀ b o, b < u8.heap.size → wq.cell? ⟨b, o, none⟩ = u8.cell? ⟨b, o, none⟩ := (fun b o h => hSw.cell (p := ⟨b, o, none⟩) h); go_simp; try with_reducible rfl; done)); try simp only [Act.put, List.setIfInBounds_toArray, List.set_cons_zero, List.set_cons_succ])
        refine held_callA 12 (by rfl) (by kernel_rfl) (by rfl) (fun KQ hKQ => ?_)
        refine wp_store_blk hx 39 (.tmp 10) (.tmp 55) (by rfl) (by rfl) (by rfl) (by rfl) (by exact hi) (by simp [Value.oneCell']) ?_
        intro wy hx2 hgx
        replace hf := hf.grown hgx (blk_ne hf hx (by decide))
        replace HB := below_own HB hgx HB.size kx
        have hs134r := HB
        refine hKQ.out _ _ hs134r ?_
        clear hKQ KQ
        try simp only [Act.put]
        refine held_callA 13 (by rfl) (by kernel_rfl) (by rfl) (fun KQ hKQ => ?_)
        refine wp_store_blk hf 31 (.tmp 11) (.tmp 56) (by rfl) (by rfl) (by rfl) (by rfl) (by exact hj) (by simp [Value.oneCell']) ?_
        intro wz hf2 hgf
        replace HB := below_own HB hgf HB.size kf
        have hs135r := HB
        refine hKQ.out _ _ hs135r ?_
        clear hKQ KQ
        try simp only [Act.put]
        refine wpAnyH_done (by kernel_rfl) ?_ _
        try refine NoPanic.normal ?_
        go_wp2_with fail
        go_meet
        exact left8_mk HB hf2
    · skip
      go_simp
      have hbs : Below u8.heap.size u8 (u8.alloc (.cells #[.int .i64 0, .int .i64 0, .slice none 0 0] 31)).drew := ((Below.refl u8.heap.size u8).alloc (Nat.le_refl _) (.cells #[.int .i64 0, .int .i64 0, .slice none 0 0] 31)).drew
      have HB2 : Below u8.heap.size u8 (u8.alloc (.cells #[.int .i64 0, .int .i64 0, .slice none 0 0] 31)).drew := hbs
      have hf : Blk (u8.alloc (.cells #[.int .i64 0, .int .i64 0, .slice none 0 0] 31)).drew u8.heap.size 31 #[.int .i64 0, .int .i64 0, .slice none 0 0] := Blk.new u8 31 #[.int .i64 0, .int .i64 0, .slice none 0 0]
      have kf : u8.heap.size ≤ u8.heap.size := Nat.le_refl _
      generalize (u8.alloc (.cells #[.int .i64 0, .int .i64 0, .slice none 0 0] 31)).drew = x85 at *
      clear HB hbs
      have HB := HB2
      clear HB2
      have hs136r := HB
      refine hKQ.out _ _ hs136r ?_
      clear hKQ KQ
      try simp only [Act.put, List.setIfInBounds_toArray, List.set_cons_zero, List.set_cons_succ]
      refine held_two 0 10 (by rfl) (by rfl) (by kernel_rfl) (by rfl) (by rfl) (fun KQ hKQ => ?_) (fun KQ hKQ => ?_)
      · skip
        go_simp
        have hbs : Below x85.heap.size x85 (x85.alloc (.cells #[] 5)) := ((Below.refl x85.heap.size x85).alloc (Nat.le_refl _) (.cells #[] 5))
        have HB2 : Below u8.heap.size u8 (x85.alloc (.cells #[] 5)) := HB.trans (hbs.mono HB.size)
        replace hf := hf.below hbs hf.lt
        have row : OwnB (x85.alloc (.cells #[] 5)) u8.heap.size (.slice (some ⟨x85.heap.size, 0, none⟩) 0 0) 0 [] := by
          have := OwnB.lit (base := x85.heap.size) x85 [] (Nat.le_refl _) (by simp)
          rw [show byCells [] = #[] from rfl] at this
          exact OwnB.less this HB.size
        generalize (x85.alloc (.cells #[] 5)) = x86 at *
        clear HB hbs
        have HB := HB2
        clear HB2
        have hs137r := HB
        refine hKQ.out _ _ hs137r ?_
        clear hKQ KQ
        try simp only [Act.put, List.setIfInBounds_toArray, List.set_cons_zero, List.set_cons_succ]
        refine held_two 2 10 (by rfl) (by rfl) (by kernel_rfl) (by rfl) (by rfl) (fun KQ hKQ => ?_) (fun KQ hKQ => ?_)
        · skip
          refine wp_app _ (.tmp 48) (.tmp 49) (by rfl) u8.heap.size _ 0 [] (by rfl) row _ A1 L.length c1 _ (by rfl) (by7.nx HB) (by omega) HB.size ?_
          intro vr x87 row2 hgr hdr
          clear hdr
          have hba := row.below_app hgr HB.size
          replace HB := HB.trans hba
          replace hf := hf.grown hgr (own_ne row hf (by decide))
          clear row hba hgr
          have row := row2
          clear row2
          rw [Nat.zero_add, List.nil_append] at row
          obtain ⟨Ar, cr, rfl, hnr, hcr, byr, _⟩ := row.any2
          clear hnr hcr byr
          have hs138r := HB
          refine hKQ.out _ _ hs138r ?_
          clear hKQ KQ
          try simp only [Act.put, List.setIfInBounds_toArray, List.set_cons_zero, List.set_cons_succ]
          refine held_two 5 10 (by rfl) (by rfl) (by kernel_rfl) (by rfl) (by rfl) (fun KQ hKQ => ?_) (fun KQ hKQ => ?_)
          · skip
            refine wp_app _ (.tmp 50) (.tmp 52) (by rfl) u8.heap.size _ _ _ (by rfl) row _ A4 4 c1 _ (by rfl) (by4.nx HB) (by omega) HB.size ?_
            intro vr x88 row2 hgr hdr
            clear hdr
            have hba := row.below_app hgr HB.size
            replace HB := HB.trans hba
            replace hf := hf.grown hgr (own_ne row hf (by decide))
            clear row hba hgr
            have row := row2
            clear row2
            obtain ⟨Ar, cr, rfl, hnr, hcr, byr, _⟩ := row.any2
            have hs139r := HB
            refine hKQ.out _ _ hs139r ?_
            clear hKQ KQ
            try simp only [Act.put, List.setIfInBounds_toArray, List.set_cons_zero, List.set_cons_succ]
            refine held_two 6 10 (by rfl) (by rfl) (by kernel_rfl) (by rfl) (by rfl) (fun KQ hKQ => ?_) (fun KQ hKQ => ?_)
            · skip
              go_simp
              refine (attrParse_any x88 Ar _ cr _ byr (by omega)).mono ?_
              rintro e x89 ⟨hb, hP⟩
              rw [E3.out] at hP
              obtain ⟨XX, dd, rfl, _, _, _⟩ := hP.no
              rw [show ([] : List UInt8).length = 0 from rfl]
              clear hP byr hnr hcr
              replace HB := HB.trans (hb.mono HB.size)
              replace hf := hf.below hb hf.lt
              clear row hb
              have hs140r := HB
              refine hKQ.out _ _ hs140r ?_
              clear hKQ KQ
              try simp only [Act.put, List.setIfInBounds_toArray, List.set_cons_zero, List.set_cons_succ]
              (refine held_takeA 7 (by rfl) ?_ (by kernel_rfl) (fun _ _ _ h => h) hs140r ?_ ?_; rotate_left; (focus (intro wq hSw; have hrd : ∀ b o, b < u8.heap.size → wq.cell? ⟨b, o, none⟩ = u8.cell? ⟨b, o, none⟩ := (fun b o h => hSw.cell (p := ⟨b, o, none⟩) h); go_simp; try with_reducible rfl; done)); try simp only [Act.put, List.setIfInBounds_toArray, List.set_cons_zero, List.set_cons_succ])
              (refine held_takeA 8 (by rfl) ?_ (by kernel_rfl) (fun _ _ _ h => h) hs140r ?_ ?_; rotate_left; (focus (intro wq hSw; have hrd : ∀ b o, b < u8.heap.size → wq.cell? ⟨b, o, none⟩ = u8.cell? ⟨b, o, none⟩ := (fun b o h => hSw.cell (p := ⟨b, o, none⟩) h); go_simp; try with_reducible rfl; done)); try simp only [Act.put, List.setIfInBounds_toArray, List.set_cons_zero, List.set_cons_succ])
              (refine held_takeA 9 (by rfl) ?_ (by kernel_rfl) (fun _ _ _ h => h) hs140r ?_ ?_; rotate_left; (focus (intro wq hSw; have hrd : ∀ b o, b < u8.heap.size → wq.cell? ⟨b, o, none⟩ = u8.cell? ⟨b, o, none⟩ := (fun b o h => hSw.cell (p := ⟨b, o, none⟩) h); go_simp; try with_reducible rfl; done)); try simp only [Act.put, List.setIfInBounds_toArray, List.set_cons_zero, List.set_cons_succ])
              refine held_callA 10 (by rfl) (by kernel_rfl) (by rfl) (fun KQ hKQ => ?_)
              go_simp
              have hbs : Below x89.heap.size x89 (x89.alloc (.cells #[.int .i64 0, .slice none 0 0, .int .u32 0, .int .i64 0, .bool false] 39)) := ((Below.refl x89.heap.size x89).alloc (Nat.le_refl _) (.cells #[.int .i64 0, .slice none 0 0, .int .u32 0, .int .i64 0, .bool false] 39))
              have HB2 : Below u8.heap.size u8 (x89.alloc (.cells #[.int .i64 0, .slice none 0 0, .int .u32 0, .int .i64 0, .bool false] 39)) := HB.trans (hbs.mono HB.size)
              replace hf := hf.below hbs hf.lt
              have hx : Blk (x89.alloc (.cells #[.int .i64 0, .slice none 0 0, .int .u32 0, .int .i64 0, .bool false] 39)) x89.heap.size 39 #[.int .i64 0, .slice none 0 0, .int .u32 0, .int .i64 0, .bool false] := Blk.new x89 39 #[.int .i64 0, .slice none 0 0, .int .u32 0, .int .i64 0, .bool false]
              have kx : u8.heap.size ≤ x89.heap.size := HB.size
              generalize (x89.alloc (.cells #[.int .i64 0, .slice none 0 0, .int .u32 0, .int .i64 0, .bool false] 39)) = x90 at *
              clear HB hbs
              have HB := HB2
              clear HB2
              have hs141r := HB
              refine hKQ.out _ _ hs141r ?_
              clear hKQ KQ
              try simp only [Act.put, List.setIfInBounds_toArray, List.set_cons_zero, List.set_cons_succ]
              refine held_callA 12 (by rfl) (by kernel_rfl) (by rfl) (fun KQ hKQ => ?_)
              refine wp_store_blk hx 39 (.tmp 10) (.tmp 55) (by rfl) (by rfl) (by rfl) (by rfl) (by exact hi) (by simp [Value.oneCell']) ?_
              intro wy hx2 hgx
              replace hf := hf.grown hgx (blk_ne hf hx (by decide))
              replace HB := below_own HB hgx HB.size kx
              have hs142r := HB
              refine hKQ.out _ _ hs142r ?_
              clear hKQ KQ
              try simp only [Act.put]
              refine held_callA 13 (by rfl) (by kernel_rfl) (by rfl) (fun KQ hKQ => ?_)
              refine wp_store_blk hf 31 (.tmp 11) (.tmp 56) (by rfl) (by rfl) (by rfl) (by rfl) (by exact hj) (by simp [Value.oneCell']) ?_
              intro wz hf2 hgf
              replace HB := below_own HB hgf HB.size kf
              have hs143r := HB
              refine hKQ.out _ _ hs143r ?_
              clear hKQ KQ
              try simp only [Act.put]
              refine wpAnyH_done (by kernel_rfl) ?_ _
              try refine NoPanic.normal ?_
              go_wp2_with fail
              go_meet
              exact left8_mk HB hf2
            · skip
              go_simp
              have hbs : Below x88.heap.size x88 (x88.alloc (.cells #[.int .i64 0, .slice none 0 0, .int .u32 0, .int .i64 0, .bool false] 39)) := ((Below.refl x88.heap.size x88).alloc (Nat.le_refl _) (.cells #[.int .i64 0, .slice none 0 0, .int .u32 0, .int .i64 0, .bool false] 39))
              have HB2 : Below u8.heap.size u8 (x88.alloc (.cells #[.int .i64 0, .slice none 0 0, .int .u32 0, .int .i64 0, .bool false] 39)) := HB.trans (hbs.mono HB.size)
              replace hf := hf.below hbs hf.lt
              replace row := row.below hbs
              replace byr := byr.nx hbs
              have hx : Blk (x88.alloc (.cells #[.int .i64 0, .slice none 0 0, .int .u32 0, .int .i64 0, .bool false] 39)) x88.heap.size 39 #[.int .i64 0, .slice none 0 0, .int .u32 0, .int .i64 0, .bool false] := Blk.new x88 39 #[.int .i64 0, .slice none 0 0, .int .u32 0, .int .i64 0, .bool false]
              have kx : u8.heap.size ≤ x88.heap.size := HB.size
              generalize (x88.alloc (.cells #[.int .i64 0, .slice none 0 0, .int .u32 0, .int .i64 0, .bool false] 39)) = x91 at *
              clear HB hbs
              have HB := HB2
              clear HB2
              have hs144r := HB
              refine hKQ.out _ _ hs144r ?_
              clear hKQ KQ
              try simp only [Act.put, List.setIfInBounds_toArray, List.set_cons_zero, List.set_cons_succ]
              refine held_callA 6 (by rfl) (by kernel_rfl) (by rfl) (fun KQ hKQ => ?_)
              go_simp
              refine (attrParse_any x91 Ar _ cr _ byr (by omega)).mono ?_
              rintro e x92 ⟨hb, hP⟩
              rw [E3.out] at hP
              obtain ⟨XX, dd, rfl, _, _, _⟩ := hP.no
              rw [show ([] : List UInt8).length = 0 from rfl]
              clear hP byr hnr hcr
              replace HB := HB.trans (hb.mono HB.size)
              replace hx := hx.below hb hx.lt
              replace hf := hf.below hb hf.lt
              clear row hb
              have hs145r := HB
              refine hKQ.out _ _ hs145r ?_
              clear hKQ KQ
              try simp only [Act.put, List.setIfInBounds_toArray, List.set_cons_zero, List.set_cons_succ]
              (refine held_takeA 7 (by rfl) ?_ (by kernel_rfl) (fun _ _ _ h => h) hs145r ?_ ?_; rotate_left; (focus (intro wq hSw; have hrd : ∀ b o, b < u8.heap.size → wq.cell? ⟨b, o, none⟩ = u8.cell? ⟨b, o, none⟩ := (fun b o h => hSw.cell (p := ⟨b, o, none⟩) h); go_simp; try with_reducible rfl; done)); try simp only [Act.put, List.setIfInBounds_toArray, List.set_cons_zero, List.set_cons_succ])
              (refine held_takeA 8 (by rfl) ?_ (by kernel_rfl) (fun _ _ _ h => h) hs145r ?_ ?_; rotate_left; (focus (intro wq hSw; have hrd : ∀ b o, b < u8.heap.size → wq.cell? ⟨b, o, none⟩ = u8.cell? ⟨b, o, none⟩ := (fun b o h => hSw.cell (p := ⟨b, o, none⟩) h); go_simp; try with_reducible rfl; done)); try simp only [Act.put, List.setIfInBounds_toArray, List.set_cons_zero, List.set_cons_succ])
              (refine held_takeA 9 (by rfl) ?_ (by kernel_rfl) (fun _ _ _ h => h) hs145r ?_ ?_; rotate_left; (focus (intro wq hSw; have hrd : ∀ b o, b < u8.heap.size → wq.cell? ⟨b, o, none⟩ = u8.cell? ⟨b, o, none⟩ := (fun b o h => hSw.cell (p := ⟨b, o, none⟩) h); go_simp; try with_reducible rfl; done)); try simp only [Act.put, List.setIfInBounds_toArray, List.set_cons_zero, List.set_cons_succ])
              refine held_callA 12 (by rfl) (by kernel_rfl) (by rfl) (fun KQ hKQ => ?_)
              refine wp_store_blk hx 39 (.tmp 10) (.tmp 55) (by rfl) (by rfl) (by rfl) (by rfl) (by exact hi) (by simp [Value.oneCell']) ?_
              intro wy hx2 hgx
              replace hf := hf.grown hgx (blk_ne hf hx (by decide))
              replace HB := below_own HB hgx HB.size kx
              have hs146r := HB
              refine hKQ.out _ _ hs146r ?_
              clear hKQ KQ
              try simp only [Act.put]
              refine held_callA 13 (by rfl) (by kernel_rfl) (by rfl) (fun KQ hKQ => ?_)
              refine wp_store_blk hf 31 (.tmp 11) (.tmp 56) (by rfl) (by rfl) (by rfl) (by rfl) (by exact hj) (by simp [Value.oneCell']) ?_
              intro wz hf2 hgf
              replace HB := below_own HB hgf HB.size kf
              have hs147r := HB
              refine hKQ.out _ _ hs147r ?_
              clear hKQ KQ
              try simp only [Act.put]
              refine wpAnyH_done (by kernel_rfl) ?_ _
              try refine NoPanic.normal ?_
              go_wp2_with fail
              go_meet
              exact left8_mk HB hf2
          · skip
            go_simp
            have hbs : Below x87.heap.size x87 (x87.alloc (.cells #[.int .i64 0, .slice none 0 0, .int .u32 0, .int .i64 0, .bool false] 39)) := ((Below.refl x87.heap.size x87).alloc (Nat.le_refl _) (.cells #[.int .i64 0, .slice none 0 0, .int .u32 0, .int .i64 0, .bool false] 39))
            have HB2 : Below u8.heap.size u8 (x87.alloc (.cells #[.int .i64 0, .slice none 0 0, .int .u32 0, .int .i64 0, .bool false] 39)) := HB.trans (hbs.mono HB.size)
            replace hf := hf.below hbs hf.lt
            replace row := row.below hbs
            have hx : Blk (x87.alloc (.cells #[.int .i64 0, .slice none 0 0, .int .u32 0, .int .i64 0, .bool false] 39)) x87.heap.size 39 #[.int .i64 0, .slice none 0 0, .int .u32 0, .int .i64 0, .bool false] := Blk.new x87 39 #[.int .i64 0, .slice none 0 0, .int .u32 0, .int .i64 0, .bool false]
            have kx : u8.heap.size ≤ x87.heap.size := HB.size
            generalize (x87.alloc (.cells #[.int .i64 0, .slice none 0 0, .int .u32 0, .int .i64 0, .bool false] 39)) = x93 at *
            clear HB hbs
            have HB := HB2
            clear HB2
            have hs148r := HB
            refine hKQ.out _ _ hs148r ?_
            clear hKQ KQ
            try simp only [Act.put, List.setIfInBounds_toArray, List.set_cons_zero, List.set_cons_succ]
            refine held_callA 5 (by rfl) (by kernel_rfl) (by rfl) (fun KQ hKQ => ?_)
            refine wp_app _ (.tmp 50) (.tmp 52) (by rfl) u8.heap.size _ _ _ (by rfl) row _ A4 4 c1 _ (by rfl) (by4.nx HB) (by omega) HB.size ?_
            intro vr x94 row2 hgr hdr
            clear hdr
            have hba := row.below_app hgr HB.size
            replace HB := HB.trans hba
            replace hx := hx.grown hgr (own_ne row hx (by decide))
            replace hf := hf.grown hgr (own_ne row hf (by decide))
            clear row hba hgr
            have row := row2
            clear row2
            obtain ⟨Ar, cr, rfl, hnr, hcr, byr, _⟩ := row.any2
            have hs149r := HB
            refine hKQ.out _ _ hs149r ?_
            clear hKQ KQ
            try simp only [Act.put, List.setIfInBounds_toArray, List.set_cons_zero, List.set_cons_succ]
            refine held_callA 6 (by rfl) (by kernel_rfl) (by rfl) (fun KQ hKQ => ?_)
            go_simp
            refine (attrParse_any x94 Ar _ cr _ byr (by omega)).mono ?_
            rintro e x95 ⟨hb, hP⟩
            rw [E3.out] at hP
            obtain ⟨XX, dd, rfl, _, _, _⟩ := hP.no
            rw [show ([] : List UInt8).length = 0 from rfl]
            clear hP byr hnr hcr
            replace HB := HB.trans (hb.mono HB.size)
            replace hx := hx.below hb hx.lt
            replace hf := hf.below hb hf.lt
            clear row hb
            have hs150r := HB
            refine hKQ.out _ _ hs150r ?_
            clear hKQ KQ
            try simp only [Act.put, List.setIfInBounds_toArray, List.set_cons_zero, List.set_cons_succ]
            (refine held_takeA 7 (by rfl) ?_ (by kernel_rfl) (fun _ _ _ h => h) hs150r ?_ ?_; rotate_left; (focus (intro wq hSw; have hrd : ∀ b o, b < u8.heap.size → wq.cell? ⟨b, o, none⟩ = u8.cell? ⟨b, o, none⟩ := (fun b o h => hSw.cell (p := ⟨b, o, none⟩) h); go_simp; try with_reducible rfl; done)); try simp only [Act.put, List.setIfInBounds_toArray, List.set_cons_zero, List.set_cons_succ])
            (refine held_takeA 8 (by rfl) ?_ (by kernel_rfl) (fun _ _ _ h => h) hs150r ?_ ?_; rotate_left; (focus (intro wq hSw; have hrd : ∀ b o, b < u8.heap.size → wq.cell? ⟨b, o, none⟩ = u8.cell? ⟨b, o, none⟩ := (fun b o h => hSw.cell (p := ⟨b, o, none⟩) h); go_simp; try with_reducible rfl; done)); try simp only [Act.put, List.setIfInBounds_toArray, List.set_cons_zero, List.set_cons_succ])
            (refine held_takeA 9 (by rfl) ?_ (by kernel_rfl) (fun _ _ _ h => h) hs150r ?_ ?_; rotate_left; (focus (intro wq hSw; have hrd : ∀ b o, b < u8.heap.size → wq.cell? ⟨b, o, none⟩ = u8.cell? ⟨b, o, none⟩ := (fun b o h => hSw.cell (p := ⟨b, o, none⟩) h); go_simp; try with_reducible rfl; done)); try simp only [Act.put, List.setIfInBounds_toArray, List.set_cons_zero, List.set_cons_succ])
            refine held_callA 12 (by rfl) (by kernel_rfl) (by rfl) (fun KQ hKQ => ?_)
            refine wp_store_blk hx 39 (.tmp 10) (.tmp 55) (by rfl) (by rfl) (by rfl) (by rfl) (by exact hi) (by simp [Value.oneCell']) ?_
            intro wy hx2 hgx
            replace hf := hf.grown hgx (blk_ne hf hx (by decide))
            replace HB := below_own HB hgx HB.size kx
            have hs151r := HB
            refine hKQ.out _ _ hs151r ?_
            clear hKQ KQ
            try simp only [Act.put]
            refine held_callA 13 (by rfl) (by kernel_rfl) (by rfl) (fun KQ hKQ => ?_)
            refine wp_store_blk hf 31 (.tmp 11) (.tmp 56) (by rfl) (by rfl) (by rfl) (by rfl) (by exact hj) (by simp [Value.oneCell']) ?_
            intro wz hf2 hgf
            replace HB := below_own HB hgf HB.size kf
            have hs152r := HB
            refine hKQ.out _ _ hs152r ?_
            clear hKQ KQ
            try simp only [Act.put]
            refine wpAnyH_done (by kernel_rfl) ?_ _
            try refine NoPanic.normal ?_
            go_wp2_with fail
            go_meet
            exact left8_mk HB hf2
        · skip
          go_simp
          have hbs : Below x86.heap.size x86 (x86.alloc (.cells #[.int .i64 0, .slice none 0 0, .int .u32 0, .int .i64 0, .bool false] 39)) := ((Below.refl x86.heap.size x86).alloc (Nat.le_refl _) (.cells #[.int .i64 0, .slice none 0 0, .int .u32 0, .int .i64 0, .bool false] 39))
          have HB2 : Below u8.heap.size u8 (x86.alloc (.cells #[.int .i64 0, .slice none 0 0, .int .u32 0, .int .i64 0, .bool false] 39)) := HB.trans (hbs.mono HB.size)
          replace hf := hf.below hbs hf.lt
          replace row := row.below hbs
          have hx : Blk (x86.alloc (.cells #[.int .i64 0, .slice none 0 0, .int .u32 0, .int .i64 0, .bool false] 39)) x86.heap.size 39 #[.int .i64 0, .slice none 0 0, .int .u32 0, .int .i64 0, .bool false] := Blk.new x86 39 #[.int .i64 0, .slice none 0 0, .int .u32 0, .int .i64 0, .bool false]
          have kx : u8.heap.size ≤ x86.heap.size := HB.size
          generalize (x86.alloc (.cells #[.int .i64 0, .slice none 0 0, .int .u32 0, .int .i64 0, .bool false] 39)) = x96 at *
          clear HB hbs
          have HB := HB2
          clear HB2
          have hs153r := HB
          refine hKQ.out _ _ hs153r ?_
          clear hKQ KQ
          try simp only [Act.put, List.setIfInBounds_toArray, List.set_cons_zero, List.set_cons_succ]
          refine held_callA 2 (by rfl) (by kernel_rfl) (by rfl) (fun KQ hKQ => ?_)
          refine wp_app _ (.tmp 48) (.tmp 49) (by rfl) u8.heap.size _ 0 [] (by rfl) row _ A1 L.length c1 _ (by rfl) (by7.nx HB) (by omega) HB.size ?_
          intro vr x97 row2 hgr hdr
          clear hdr
          have hba := row.below_app hgr HB.size
          replace HB := HB.trans hba
          replace hx := hx.grown hgr (own_ne row hx (by decide))
          replace hf := hf.grown hgr (own_ne row hf (by decide))
          clear row hba hgr
          have row := row2
          clear row2
          rw [Nat.zero_add, List.nil_append] at row
          obtain ⟨Ar, cr, rfl, hnr, hcr, byr, _⟩ := row.any2
          clear hnr hcr byr
          have hs154r := HB
          refine hKQ.out _ _ hs154r ?_
          clear hKQ KQ
          try simp only [Act.put, List.setIfInBounds_toArray, List.set_cons_zero, List.set_cons_succ]
          refine held_callA 5 (by rfl) (by kernel_rfl) (by rfl) (fun KQ hKQ => ?_)
          refine wp_app _ (.tmp 50) (.tmp 52) (by rfl) u8.heap.size _ _ _ (by rfl) row _ A4 4 c1 _ (by rfl) (by4.nx HB) (by omega) HB.size ?_
          intro vr x98 row2 hgr hdr
          clear hdr
          have hba := row.below_app hgr HB.size
          replace HB := HB.trans hba
          replace hx := hx.grown hgr (own_ne row hx (by decide))
          replace hf := hf.grown hgr (own_ne row hf (by decide))
          clear row hba hgr
          have row := row2
          clear row2
          obtain ⟨Ar, cr, rfl, hnr, hcr, byr, _⟩ := row.any2
          have hs155r := HB
          refine hKQ.out _ _ hs155r ?_
          clear hKQ KQ
          try simp only [Act.put, List.setIfInBounds_toArray, List.set_cons_zero, List.set_cons_succ]
          refine held_callA 6 (by rfl) (by kernel_rfl) (by rfl) (fun KQ hKQ => ?_)
          go_simp
          refine (attrParse_any x98 Ar _ cr _ byr (by omega)).mono ?_
          rintro e x99 ⟨hb, hP⟩
          rw [E3.out] at hP
          obtain ⟨XX, dd, rfl, _, _, _⟩ := hP.no
          rw [show ([] : List UInt8).length = 0 from rfl]
          clear hP byr hnr hcr
          replace HB := HB.trans (hb.mono HB.size)
          replace hx := hx.below hb hx.lt
          replace hf := hf.below hb hf.lt
          clear row hb
          have hs156r := HB
          refine hKQ.out _ _ hs156r ?_
          clear hKQ KQ
          try simp only [Act.put, List.setIfInBounds_toArray, List.set_cons_zero, List.set_cons_succ]
          (refine held_takeA 7 (by rfl) ?_ (by kernel_rfl) (fun _ _ _ h => h) hs156r ?_ ?_; rotate_left; (focus (intro wq hSw; have hrd : ∀ b o, b < u8.heap.size → wq.cell? ⟨b, o, none⟩ = u8.cell? ⟨b, o, none⟩ := (fun b o h => hSw.cell (p := ⟨b, o, none⟩) h); go_simp; try with_reducible rfl; done)); try simp only [Act.put, List.setIfInBounds_toArray, List.set_cons_zero, List.set_cons_succ])
          (refine held_takeA 8 (by rfl) ?_ (by kernel_rfl) (fun _ _ _ h => h) hs156r ?_ ?_; rotate_left; (focus (intro wq hSw; have hrd : ∀ b o, b < u8.heap.size → wq.cell? ⟨b, o, none⟩ = u8.cell? ⟨b, o, none⟩ := (fun b o h => hSw.cell (p := ⟨b, o, none⟩) h); go_simp; try with_reducible rfl; done)); try simp only [Act.put, List.setIfInBounds_toArray, List.set_cons_zero, List.set_cons_succ])
          (refine held_takeA 9 (by rfl) ?_ (by kernel_rfl) (fun _ _ _ h => h) hs156r ?_ ?_; rotate_left; (focus (intro wq hSw; have hrd : ∀ b o, b < u8.heap.size → wq.cell? ⟨b, o, none⟩ = u8.cell? ⟨b, o, none⟩ := (fun b o h => hSw.cell (p := ⟨b, o, none⟩) h); go_simp; try with_reducible rfl; done)); try simp only [Act.put, List.setIfInBounds_toArray, List.set_cons_zero, List.set_cons_succ])
          refine held_callA 12 (by rfl) (by kernel_rfl) (by rfl) (fun KQ hKQ => ?_)
          refine wp_store_blk hx 39 (.tmp 10) (.tmp 55) (by rfl) (by rfl) (by rfl) (by rfl) (by exact hi) (by simp [Value.oneCell']) ?_
          intro wy hx2 hgx
          replace hf := hf.grown hgx (blk_ne hf hx (by decide))
          replace HB := below_own HB hgx HB.size kx
          have hs157r := HB
          refine hKQ.out _ _ hs157r ?_
          clear hKQ KQ
          try simp only [Act.put]
          refine held_callA 13 (by rfl) (by kernel_rfl) (by rfl) (fun KQ hKQ => ?_)
          refine wp_store_blk hf 31 (.tmp 11) (.tmp 56) (by rfl) (by rfl) (by rfl) (by rfl) (by exact hj) (by simp [Value.oneCell']) ?_
          intro wz hf2 hgf
          replace HB := below_own HB hgf HB.size kf
          have hs158r := HB
          refine hKQ.out _ _ hs158r ?_
          clear hKQ KQ
          try simp only [Act.put]
          refine wpAnyH_done (by kernel_rfl) ?_ _
          try refine NoPanic.normal ?_
          go_wp2_with fail
          go_meet
          exact left8_mk HB hf2
      · skip
        go_simp
        have hbs : Below x85.heap.size x85 (x85.alloc (.cells #[.int .i64 0, .slice none 0 0, .int .u32 0, .int .i64 0, .bool false] 39)) := ((Below.refl x85.heap.size x85).alloc (Nat.le_refl _) (.cells #[.int .i64 0, .slice none 0 0, .int .u32 0, .int .i64 0, .bool false] 39))
        have HB2 : Below u8.heap.size u8 (x85.alloc (.cells #[.int .i64 0, .slice none 0 0, .int .u32 0, .int .i64 0, .bool false] 39)) := HB.trans (hbs.mono HB.size)
        replace hf := hf.below hbs hf.lt
        have hx : Blk (x85.alloc (.cells #[.int .i64 0, .slice none 0 0, .int .u32 0, .int .i64 0, .bool false] 39)) x85.heap.size 39 #[.int .i64 0, .slice none 0 0, .int .u32 0, .int .i64 0, .bool false] := Blk.new x85 39 #[.int .i64 0, .slice none 0 0, .int .u32 0, .int .i64 0, .bool false]
        have kx : u8.heap.size ≤ x85.heap.size := HB.size
        generalize (x85.alloc (.cells #[.int .i64 0, .slice none 0 0, .int .u32 0, .int .i64 0, .bool false] 39)) = x100 at *
        clear HB hbs
        have HB := HB2
        clear HB2
        have hs159r := HB
        refine hKQ.out _ _ hs159r ?_
        clear hKQ KQ
        try simp only [Act.put, List.setIfInBounds_toArray, List.set_cons_zero, List.set_cons_succ]
        refine held_callA 0 (by rfl) (by kernel_rfl) (by rfl) (fun KQ hKQ => ?_)
        go_simp
        have hbs : Below x100.heap.size x100 (x100.alloc (.cells #[] 5)) := ((Below.refl x100.heap.size x100).alloc (Nat.le_refl _) (.cells #[] 5))
        have HB2 : Below u8.heap.size u8 (x100.alloc (.cells #[] 5)) := HB.trans (hbs.mono HB.size)
        replace hx := hx.below hbs hx.lt
        replace hf := hf.below hbs hf.lt
        have row : OwnB (x100.alloc (.cells #[] 5)) u8.heap.size (.slice (some ⟨x100.heap.size, 0, none⟩) 0 0) 0 [] := by
          have := OwnB.lit (base := x100.heap.size) x100 [] (Nat.le_refl _) (by simp)
          rw [show byCells [] = #[] from rfl] at this
          exact OwnB.less this HB.size
        generalize (x100.alloc (.cells #[] 5)) = x101 at *
        clear HB hbs
        have HB := HB2
        clear HB2
        have hs160r := HB
        refine hKQ.out _ _ hs160r ?_
        clear hKQ KQ
        try simp only [Act.put, List.setIfInBounds_toArray, List.set_cons_zero, List.set_cons_succ]
        refine held_callA 2 (by rfl) (by kernel_rfl) (by rfl) (fun KQ hKQ => ?_)
        refine wp_app _ (.tmp 48) (.tmp 49) (by rfl) u8.heap.size _ 0 [] (by rfl) row _ A1 L.length c1 _ (by rfl) (by7.nx HB) (by omega) HB.size ?_
        intro vr x102 row2 hgr hdr
        clear hdr
        have hba := row.below_app hgr HB.size
        replace HB := HB.trans hba
        replace hx := hx.grown hgr (own_ne row hx (by decide))
        replace hf := hf.grown hgr (own_ne row hf (by decide))
        clear row hba hgr
        have row := row2
        clear row2
        rw [Nat.zero_add, List.nil_append] at row
        obtain ⟨Ar, cr, rfl, hnr, hcr, byr, _⟩ := row.any2
        clear hnr hcr byr
        have hs161r := HB
        refine hKQ.out _ _ hs161r ?_
        clear hKQ KQ
        try simp only [Act.put, List.setIfInBounds_toArray, List.set_cons_zero, List.set_cons_succ]
        refine held_callA 5 (by rfl) (by kernel_rfl) (by rfl) (fun KQ hKQ => ?_)
        refine wp_app _ (.tmp 50) (.tmp 52) (by rfl) u8.heap.size _ _ _ (by rfl) row _ A4 4 c1 _ (by rfl) (by4.nx HB) (by omega) HB.size ?_
        intro vr x103 row2 hgr hdr
        clear hdr
        have hba := row.below_app hgr HB.size
        replace HB := HB.trans hba
        replace hx := hx.grown hgr (own_ne row hx (by decide))
        replace hf := hf.grown hgr (own_ne row hf (by decide))
        clear row hba hgr
        have row := row2
        clear row2
        obtain ⟨Ar, cr, rfl, hnr, hcr, byr, _⟩ := row.any2
        have hs162r := HB
        refine hKQ.out _ _ hs162r ?_
        clear hKQ KQ
        try simp only [Act.put, List.setIfInBounds_toArray, List.set_cons_zero, List.set_cons_succ]
        refine held_callA 6 (by rfl) (by kernel_rfl) (by rfl) (fun KQ hKQ => ?_)
        go_simp
        refine (attrParse_any x103 Ar _ cr _ byr (by omega)).mono ?_
        rintro e x104 ⟨hb, hP⟩
        rw [E3.out] at hP
        obtain ⟨XX, dd, rfl, _, _, _⟩ := hP.no
        rw [show ([] : List UInt8).length = 0 from rfl]
        clear hP byr hnr hcr
        replace HB := HB.trans (hb.mono HB.size)
        replace hx := hx.below hb hx.lt
        replace hf := hf.below hb hf.lt
        clear row hb
        have hs163r := HB
        refine hKQ.out _ _ hs163r ?_
        clear hKQ KQ
        try simp only [Act.put, List.setIfInBounds_toArray, List.set_cons_zero, List.set_cons_succ]
        (refine held_takeA 7 (by rfl) ?_ (by kernel_rfl) (fun _ _ _ h => h) hs163r ?_ ?_; rotate_left; (focus (intro wq hSw; have hrd : ∀ b o, b < u8.heap.size → wq.cell? ⟨b, o, none⟩ = u8.cell? ⟨b, o, none⟩ := (fun b o h => hSw.cell (p := ⟨b, o, none⟩) h); go_simp; try with_reducible rfl; done)); try simp only [Act.put, List.setIfInBounds_toArray, List.set_cons_zero, List.set_cons_succ])
        (refine held_takeA 8 (by rfl) ?_ (by kernel_rfl) (fun _ _ _ h => h) hs163r ?_ ?_; rotate_left; (focus (intro wq hSw; have hrd : ∀ b o, b < u8.heap.size → wq.cell? ⟨b, o, none⟩ = u8.cell? ⟨b, o, none⟩ := (fun b o h => hSw.cell (p := ⟨b, o, none⟩) h); go_simp; try with_reducible rfl; done)); try simp only [Act.put, List.setIfInBounds_toArray, List.set_cons_zero, List.set_cons_succ])
        (refine held_takeA 9 (by rfl) ?_ (by kernel_rfl) (fun _ _ _ h => h) hs163r ?_ ?_; rotate_left; (focus (intro wq hSw; have hrd : ∀ b o, b < u8.heap.size → wq.cell? ⟨b, o, none⟩ = u8.cell? ⟨b, o, none⟩ := (fun b o h => hSw.cell (p := ⟨b, o, none⟩) h); go_simp; try with_reducible rfl; done)); try simp only [Act.put, List.setIfInBounds_toArray, List.set_cons_zero, List.set_cons_succ])
        refine held_callA 12 (by rfl) (by kernel_rfl) (by rfl) (fun KQ hKQ => ?_)
        refine wp_store_blk hx 39 (.tmp 10) (.tmp 55) (by rfl) (by rfl) (by rfl) (by rfl) (by exact hi) (by simp [Value.oneCell']) ?_
        intro wy hx2 hgx
        replace hf := hf.grown hgx (blk_ne hf hx (by decide))
        replace HB := below_own HB hgx HB.size kx
        have hs164r := HB
        refine hKQ.out _ _ hs164r ?_
        clear hKQ KQ
        try simp only [Act.put]
        refine held_callA 13 (by rfl) (by kernel_rfl) (by rfl) (fun KQ hKQ => ?_)
        refine wp_store_blk hf 31 (.tmp 11) (.tmp 56) (by rfl) (by rfl) (by rfl) (by rfl) (by exact hj) (by simp [Value.oneCell']) ?_
        intro wz hf2 hgf
        replace HB := below_own HB hgf HB.size kf
        have hs165r := HB
        refine hKQ.out _ _ hs165r ?_
        clear hKQ KQ
        try simp only [Act.put]
        refine wpAnyH_done (by kernel_rfl) ?_ _
        try refine NoPanic.normal ?_
        go_wp2_with fail
        go_meet
        exact left8_mk HB hf2
  case rest =>
    obtain ⟨hb8, g10, g11, X10, d10, rfl, rfl, hf10⟩ := hcut
    replace hq := hq.below hb8 hq.lt
    replace hx6 := hx6.below hb8 hx6.lt
    replace hf6 := hf6.below hb8 hf6.lt
    replace hx8 := hx8.below hb8 hx8.lt
    replace hf8 := hf8.below hb8 hf8.lt
    replace hN := hN.nx hb8
    replace hN6 := hN6.nx hb8
    replace by7 := by7.nx hb8
    replace by8 := by8.nx hb8
    replace hB := hB.trans (hb8.mono hB.size)
    clear hb8 by4 hby4 hsl4
    obtain ⟨A5, hsl5, hby5⟩ := slice_drop A1 L.length c1 4 (by omega) hnc1
    rw [c44] at hsl5
    have by5 := hby5 _ _ _ by7
    go_wp2_with fail
    have hlo12 : w.heap.size + 1 ≤ wc.heap.size := hq.lt
    refine (attrParse_any wc A5 (L.length - 4) (c1 - 4) (L.drop 4) by5 (by omega)).mono ?_
    rintro e v12 ⟨hb, hP⟩
    rw [E4.out] at hP
    have hgt12 : w.heap.size + 1 ≤ v12.heap.size := Nat.le_trans hlo12 hb.size
    obtain ⟨X12, d12, rfl, hd12, by12, hz12⟩ := hP.no
    replace by12 : Byt v12 v12.heap.size X12 1 [1] := by12
    replace hd12 : 1 ≤ d12 := hd12
    rw [show ([1] : List UInt8).length = 1 from rfl]
    clear hP
    replace hq := hq.below hb hq.lt
    replace hx6 := hx6.below hb hx6.lt
    replace hf6 := hf6.below hb hf6.lt
    replace hx8 := hx8.below hb hx8.lt
    replace hf8 := hf8.below hb hf8.lt
    replace hf10 := hf10.below hb hf10.lt
    replace hN := hN.nx hb
    replace hN6 := hN6.nx hb
    replace by7 := by7.nx hb
    replace by8 := by8.nx hb
    replace hB := hB.trans (hb.mono hB.size)
    clear hb
    have hx12 := (Blk.new v12 39 #[.int .i64 0, .slice none 0 0, .int .u32 0, .int .i64 0, .bool false]).alloc (.cells #[.int .i64 3, .int .i64 3, .slice X12 1 d12] 31)
    have hf12 : Blk ((v12.alloc (.cells #[.int .i64 0, .slice none 0 0, .int .u32 0, .int .i64 0, .bool false] 39)).alloc (.cells #[.int .i64 3, .int .i64 3, .slice X12 1 d12] 31)) (v12.heap.size + 1) 31 #[.int .i64 3, .int .i64 3, .slice X12 1 d12] := by
      have := Blk.new (v12.alloc (.cells #[.int .i64 0, .slice none 0 0, .int .u32 0, .int .i64 0, .bool false] 39)) 31 #[.int .i64 3, .int .i64 3, .slice X12 1 d12]
      simpa using this
    have hba := ((Below.refl v12.heap.size v12).alloc (Nat.le_refl _) (.cells #[.int .i64 0, .slice none 0 0, .int .u32 0, .int .i64 0, .bool false] 39)).alloc (by simp) (.cells #[.int .i64 3, .int .i64 3, .slice X12 1 d12] 31)
    replace hq := hq.below hba hq.lt
    replace hx6 := hx6.below hba hx6.lt
    replace hf6 := hf6.below hba hf6.lt
    replace hx8 := hx8.below hba hx8.lt
    replace hf8 := hf8.below hba hf8.lt
    replace hf10 := hf10.below hba hf10.lt
    replace hN := hN.nx hba
    replace hN6 := hN6.nx hba
    replace by7 := by7.nx hba
    replace by8 := by8.nx hba
    replace by12 := by12.nx hba
    replace hB := hB.trans (hba.mono hB.size)
    clear hba
    go_upto_region 10 with (fail)
    generalize (v12.alloc (.cells #[.int .i64 0, .slice none 0 0, .int .u32 0, .int .i64 0, .bool false] 39)).alloc (.cells #[.int .i64 3, .int .i64 3, .slice X12 1 d12] 31) = u12 at *
    generalize v12.heap.size = g12 at *
    clear by5 hby5 hsl5 by7
    skip
    have lt_hf6 := hf6.lt
    have c0_hf6 : u12.cell? ⟨(g6 + 1), 0, none⟩ = some (.int .i64 0) := hf6.cellv 0 rfl
    have lt_hx6 := hx6.lt
    have c0_hx6 : u12.cell? ⟨g6, 0, none⟩ = some (.int .i64 o) := hx6.cellv 0 rfl
    have c1_hx6 : u12.cell? ⟨g6, 1, none⟩ = some (.slice X6 m6 d6) := hx6.cellv 1 rfl
    have c2_hx6 : u12.cell? ⟨g6, 2, none⟩ = some (.int .u32 h) := hx6.cellv 2 rfl
    have c3_hx6 : u12.cell? ⟨g6, 3, none⟩ = some (.int .i64 m) := hx6.cellv 3 rfl
    have c4_hx6 : u12.cell? ⟨g6, 4, none⟩ = some (.bool b) := hx6.cellv 4 rfl
    have lt_hq := hq.lt
    have c0_hq : u12.cell? ⟨w.heap.size, 0, none⟩ = some (.int .i64 o) := hq.cellv 0 rfl
    have c1_hq : u12.cell? ⟨w.heap.size, 1, none⟩ = some (.slice A n c) := hq.cellv 1 rfl
    have c2_hq : u12.cell? ⟨w.heap.size, 2, none⟩ = some (.int .u32 h) := hq.cellv 2 rfl
    have c3_hq : u12.cell? ⟨w.heap.size, 3, none⟩ = some (.int .i64 m) := hq.cellv 3 rfl
    have c4_hq : u12.cell? ⟨w.heap.size, 4, none⟩ = some (.bool b) := hq.cellv 4 rfl
    go_wp2_with fail
    refine (attrSame_any u12 o X6 m6 d6 zs h m b o A n c zs h m b hN6 hN (by have := hN6.1; have := hnl.out; omega)).mono ?_
    rintro e w7 ⟨rfl, hb⟩
    rw [sameA_refl]
    clear lt_hf6 c0_hf6
    clear lt_hx6 c0_hx6 c1_hx6 c2_hx6 c3_hx6 c4_hx6
    clear lt_hq c0_hq c1_hq c2_hq c3_hq c4_hq
    replace hq := hq.below hb hq.lt
    replace hx6 := hx6.below hb hx6.lt
    replace hf6 := hf6.below hb hf6.lt
    replace hx8 := hx8.below hb hx8.lt
    replace hf8 := hf8.below hb hf8.lt
    replace hf10 := hf10.below hb hf10.lt
    replace hx12 := hx12.below hb hx12.lt
    replace hf12 := hf12.below hb hf12.lt
    replace hN := hN.nx hb
    replace hN6 := hN6.nx hb
    replace by8 := by8.nx hb
    replace by12 := by12.nx hb
    replace hB := hB.trans (hb.mono hB.size)
    clear hb
    have lt_hf10 := hf10.lt
    have c1_hf10 : w7.cell? ⟨g11, 1, none⟩ = some (.int .i64 1) := hf10.cellv 1 rfl
    have lt_hf12 := hf12.lt
    have c1_hf12 : w7.cell? ⟨(g12 + 1), 1, none⟩ = some (.int .i64 3) := hf12.cellv 1 rfl
    have c2_hf12 : w7.cell? ⟨(g12 + 1), 2, none⟩ = some (.slice X12 1 d12) := hf12.cellv 2 rfl
    have q12 := run_str w7 by12 d12
    rw [show strB [1] = (⟨#[1]⟩ : ByteArray) from rfl] at q12
    go_upto_region 12 with (fail)
    clear lt_hf10 c1_hf10 lt_hf12 c1_hf12 c2_hf12 q12
    have lta := hq.lt
    have a3 : w7.cell? ⟨w.heap.size, 3, none⟩ = some (.int .i64 m) := hq.cellv 3 rfl
    have a4 : w7.cell? ⟨w.heap.size, 4, none⟩ = some (.bool b) := hq.cellv 4 rfl
    have z3 := hq.frozen 3
    have z4 := hq.frozen 4
    go_upto_region 13 with (fail)
    obtain ⟨hqa, hga⟩ := blk_store hq 3 (.int .i64 0)
    obtain ⟨hqb, hgb⟩ := blk_store hqa 4 (.bool false)
    have hgg := grown_trans hga hgb
    replace hqb : Blk ((w7.setCell ⟨w.heap.size, 3, none⟩ (.int .i64 0)).setCell ⟨w.heap.size, 4, none⟩ (.bool false)) w.heap.size 39 #[.int .i64 o, .slice A n c, .int .u32 h, .int .i64 0, .bool false] := hqb
    generalize (w7.setCell ⟨w.heap.size, 3, none⟩ (.int .i64 0)).setCell ⟨w.heap.size, 4, none⟩ (.bool false) = w8 at *
    have hf8' := hf8.grown hgg (by intro e; injection e with e; omega)
    have hB8 := below_own hB hgg hB.size (Nat.le_refl _)
    have hN8 := hN0.nx hB8
    have ltf := hf8'.lt
    have e8 : w8.cell? ⟨g8 + 1, 0, none⟩ = some (.int .i64 3) := hf8'.cellv 0 rfl
    replace hB := hB8
    go_wp2_with fail
    refine (lives7_any w8).mono ?_
    rintro e wl ⟨rfl, hbl⟩
    go_wp2_with fail
    go_ret
    exact ⟨rfl, hB.trans (hbl.mono hB.size)⟩
end Go.Proofs.Ytlpplclhjkbjbaa
