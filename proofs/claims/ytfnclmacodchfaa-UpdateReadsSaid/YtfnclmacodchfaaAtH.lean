/- attr: Bytes; the document's example. -/
import Derived.Test.YtfnclmacodchfaaAtG
namespace Go.Proofs.Ytfnclmacodchfaa
set_option linter.unusedVariables false
open Go.RowKit

theorem dat_one (f t : Int) (A : Option Addr) (n c : Nat) (l : List UInt8) : dat ⟨f, t, A, n, c, l⟩ = (f, t, l) := rfl
set_option maxRecDepth 100000 in
set_option maxHeartbeats 8000000 in
theorem attrBytes_any (w : World) (o : Int) (A : Option Addr) (n c : Nat) (zs : List Int) (h m : Int) (b : Bool) (hN : Nums .i64 w w.heap.size A n zs) (h0 : 0 ≤ h) (h1 : h ≤ 4294967295) :
    Calls Try.prog 23 #[.agg #[.int .i64 o, .slice A n c, .int .u32 h, .int .i64 m, .bool b]] w fun e w' => ∃ v, e = .returned v ∧ OwnB w' w.heap.size v (attrsB o zs h m b).length (attrsB o zs h m b) ∧ Below w.heap.size w w' := by
  have hl := hN.1
  have hi : (Try.prog.info? 26).map (·.size) = some 5 := by kernel_rfl
  have hB := (Below.refl w.heap.size w).alloc (Nat.le_refl _) (.cells #[.int .i64 o, .slice A n c, .int .u32 h, .int .i64 m, .bool b] 26)
  have hq := Blk.new w 26 #[.int .i64 o, .slice A n c, .int .u32 h, .int .i64 m, .bool b]
  have hN2 := (hN.below hB).more hB.size
  go_enter Try.func23, Try.ntmps23
  go_wp2_with fail
  generalize w.alloc (.cells #[.int .i64 o, .slice A n c, .int .u32 h, .int .i64 m, .bool b] 26) = w1 at *
  refine (attrGood_any w1 o A n c zs h m b hN2 h0 h1).mono ?_
  rintro e w2 ⟨rfl, hb⟩
  replace hN2 := (hN2.below hb).more hb.size
  replace hq := hq.below hb hq.lt
  replace hB := hB.trans (hb.mono hB.size)
  clear hb
  cases hg : goodA o zs h m b
  · have e : [] = attrsB o zs h m b := by unfold attrsB; rw [hg]; rfl
    replace e := Lib.hid e
    go_wp2_with fail
    go_ret
    exact ⟨_, rfl, by rw [← e.out]; exact OwnB.nil _ _, hB⟩
  have e : attrsB o zs h m b = joinD (attrsD o zs h m b) := if_pos hg
  have hat := Lib.hid e
  clear e
  have hzl : zs.length ≤ 16 := by have := hg; unfold goodA at this; simp at this; omega
  have hn16 : n ≤ 16 := by omega
  have hf0 : w2.cell? ⟨w.heap.size, 0, none⟩ = some (.int .i64 o) := hq.cellv 0 rfl
  have hf1 : w2.cell? ⟨w.heap.size, 1, none⟩ = some (.slice A n c) := hq.cellv 1 rfl
  have hf2 : w2.cell? ⟨w.heap.size, 2, none⟩ = some (.int .u32 h) := hq.cellv 2 rfl
  have lt1 := hq.lt
  replace hl := Lib.hid hl
  replace hg := Lib.hid hg
  replace hzl := Lib.hid hzl
  go_wp2_with fail
  -- region 3: 0 1 2C 3 4 5 6C 7 8 9 10C 11 12M 13
  try refine wp_region_noPanic ?_
  have hs1r : Below w2.heap.size w2 w2.drew := (Below.refl _ _).drew
  refine wp_region_held_drew (S := fun w' => Below w2.heap.size w2 w') (by kernel_rfl) hs1r (fun _ => ?_)
  (refine held_takeA 0 (by rfl) ?_ (by kernel_rfl) (fun _ _ _ h => h) hs1r ?_ ?_; rotate_left; (focus (intro wq hSw; have hrd : ∀ b o, b < w2.heap.size → wq.cell? ⟨b, o, none⟩ = w2.cell? ⟨b, o, none⟩ := (fun b o h => hSw.cell (p := ⟨b, o, none⟩) h); go_simp; try with_reducible rfl; done)); try simp only [Act.put, List.setIfInBounds_toArray, List.set_cons_zero, List.set_cons_succ])
  (refine held_takeA 1 (by rfl) ?_ (by kernel_rfl) (fun _ _ _ h => h) hs1r ?_ ?_; rotate_left; (focus (intro wq hSw; have hrd : ∀ b o, b < w2.heap.size → wq.cell? ⟨b, o, none⟩ = w2.cell? ⟨b, o, none⟩ := (fun b o h => hSw.cell (p := ⟨b, o, none⟩) h); go_simp; try with_reducible rfl; done)); try simp only [Act.put, List.setIfInBounds_toArray, List.set_cons_zero, List.set_cons_succ])
  (refine held_takeA 4 (by rfl) ?_ (by kernel_rfl) (fun _ _ _ h => h) hs1r ?_ ?_; rotate_left; (focus (intro wq hSw; have hrd : ∀ b o, b < w2.heap.size → wq.cell? ⟨b, o, none⟩ = w2.cell? ⟨b, o, none⟩ := (fun b o h => hSw.cell (p := ⟨b, o, none⟩) h); go_simp; try with_reducible rfl; done)); try simp only [Act.put, List.setIfInBounds_toArray, List.set_cons_zero, List.set_cons_succ])
  (refine held_takeA 5 (by rfl) ?_ (by kernel_rfl) (fun _ _ _ h => h) hs1r ?_ ?_; rotate_left; (focus (intro wq hSw; have hrd : ∀ b o, b < w2.heap.size → wq.cell? ⟨b, o, none⟩ = w2.cell? ⟨b, o, none⟩ := (fun b o h => hSw.cell (p := ⟨b, o, none⟩) h); go_simp; try with_reducible rfl; done)); try simp only [Act.put, List.setIfInBounds_toArray, List.set_cons_zero, List.set_cons_succ])
  (refine held_takeA 8 (by rfl) ?_ (by kernel_rfl) (fun _ _ _ h => h) hs1r ?_ ?_; rotate_left; (focus (intro wq hSw; have hrd : ∀ b o, b < w2.heap.size → wq.cell? ⟨b, o, none⟩ = w2.cell? ⟨b, o, none⟩ := (fun b o h => hSw.cell (p := ⟨b, o, none⟩) h); go_simp; try with_reducible rfl; done)); try simp only [Act.put, List.setIfInBounds_toArray, List.set_cons_zero, List.set_cons_succ])
  (refine held_takeA 9 (by rfl) ?_ (by kernel_rfl) (fun _ _ _ h => h) hs1r ?_ ?_; rotate_left; (focus (intro wq hSw; have hrd : ∀ b o, b < w2.heap.size → wq.cell? ⟨b, o, none⟩ = w2.cell? ⟨b, o, none⟩ := (fun b o h => hSw.cell (p := ⟨b, o, none⟩) h); go_simp; try with_reducible rfl; done)); try simp only [Act.put, List.setIfInBounds_toArray, List.set_cons_zero, List.set_cons_succ])
  refine held_callA 2 (by rfl) (by kernel_rfl) (by rfl) (fun KQ hKQ => ?_)
  go_simp
  refine (put8_any w2.drew none 0 0 [] 0 Byt.none_ (by omega) (by omega) o).mono ?_
  rintro e w3 ⟨v3, rfl, own3, hb⟩
  rw [be1_mod, List.nil_append, Nat.zero_add] at own3
  obtain ⟨A3, c3, rfl, hc3, hcm3, by3, hA3⟩ := own3.any2
  have hz3 : w2.heap.size ≤ w3.heap.size := hb.size
  have hN3 := (hN2.below (B := w2.heap.size) ((Below.refl w2.heap.size w2).drew.trans hb)).more hz3
  replace hq := hq.below ((Below.refl w2.heap.size w2).drew.trans hb) lt1
  clear own3 hf0 hf1 hf2
  refine hKQ.out _ _ (hs1r.trans hb) (held_mono (S' := fun w' => Below w3.heap.size w3 w') (fun w' h => (hs1r.trans hb).trans (h.mono (hs1r.trans hb).size)) _ _ _ _ ?_)
  clear hKQ KQ
  replace hB := hB.trans ((hs1r.trans hb).mono hB.size)
  have hs2r : Below w3.heap.size w3 w3 := Below.refl _ _
  try simp only [Act.put, List.setIfInBounds_toArray, List.set_cons_zero, List.set_cons_succ]
  (refine held_takeA 3 (by rfl) ?_ (by kernel_rfl) (fun _ _ _ h => h) hs2r ?_ ?_; rotate_left; (focus (intro wq hSw; have hrd : ∀ b o, b < w3.heap.size → wq.cell? ⟨b, o, none⟩ = w3.cell? ⟨b, o, none⟩ := (fun b o h => hSw.cell (p := ⟨b, o, none⟩) h); go_simp; try with_reducible rfl; done)); try simp only [Act.put, List.setIfInBounds_toArray, List.set_cons_zero, List.set_cons_succ])
  clear hb
  refine held_callA 6 (by rfl) (by kernel_rfl) (by rfl) (fun KQ hKQ => ?_)
  go_simp
  refine (segment_any w3 A n c zs hN3 (by omega)).mono ?_
  rintro e w4 ⟨v4, rfl, own4, hb⟩
  obtain ⟨A4, c4, rfl, hc4, hcm4, by4, hA4⟩ := own4.any2
  have hz4 := hb.size
  replace by3 := by3.nx hb
  replace hq := hq.below hb hq.lt
  clear own4 hN3
  refine hKQ.out _ _ (hs2r.trans hb) (held_mono (S' := fun w' => Below w4.heap.size w4 w') (fun w' h => (hs2r.trans hb).trans (h.mono (hs2r.trans hb).size)) _ _ _ _ ?_)
  clear hKQ KQ
  replace hB := hB.trans ((hs2r.trans hb).mono hB.size)
  have hs3r : Below w4.heap.size w4 w4 := Below.refl _ _
  try simp only [Act.put, List.setIfInBounds_toArray, List.set_cons_zero, List.set_cons_succ]
  (refine held_takeA 7 (by rfl) ?_ (by kernel_rfl) (fun _ _ _ h => h) hs3r ?_ ?_; rotate_left; (focus (intro wq hSw; have hrd : ∀ b o, b < w4.heap.size → wq.cell? ⟨b, o, none⟩ = w4.cell? ⟨b, o, none⟩ := (fun b o h => hSw.cell (p := ⟨b, o, none⟩) h); go_simp; try with_reducible rfl; done)); try simp only [Act.put, List.setIfInBounds_toArray, List.set_cons_zero, List.set_cons_succ])
  clear hb
  refine held_callA 10 (by rfl) (by kernel_rfl) (by rfl) (fun KQ hKQ => ?_)
  go_simp
  refine (put32_any w4 none 0 0 [] 0 Byt.none_ (by omega) (by omega) h h0 h1).mono ?_
  rintro e w5 ⟨v5, rfl, own5, hb⟩
  rw [List.nil_append, Nat.zero_add] at own5
  obtain ⟨A5, c5, rfl, hc5, hcm5, by5, hA5⟩ := own5.any2
  have hz5 := hb.size
  replace by3 := by3.nx hb
  replace by4 := by4.nx hb
  replace hq := hq.below hb hq.lt
  clear own5
  refine hKQ.out _ _ (hs3r.trans hb) (held_mono (S' := fun w' => Below w5.heap.size w5 w') (fun w' h => (hs3r.trans hb).trans (h.mono (hs3r.trans hb).size)) _ _ _ _ ?_)
  clear hKQ KQ
  replace hB := hB.trans ((hs3r.trans hb).mono hB.size)
  have hs4r : Below w5.heap.size w5 w5 := Below.refl _ _
  try simp only [Act.put, List.setIfInBounds_toArray, List.set_cons_zero, List.set_cons_succ]
  (refine held_takeA 11 (by rfl) ?_ (by kernel_rfl) (fun _ _ _ h => h) hs4r ?_ ?_; rotate_left; (focus (intro wq hSw; have hrd : ∀ b o, b < w5.heap.size → wq.cell? ⟨b, o, none⟩ = w5.cell? ⟨b, o, none⟩ := (fun b o h => hSw.cell (p := ⟨b, o, none⟩) h); go_simp; try with_reducible rfl; done)); try simp only [Act.put, List.setIfInBounds_toArray, List.set_cons_zero, List.set_cons_succ])
  clear hb
  obtain ⟨rs, hrs⟩ : ∃ rs : List RawV, rs = [⟨64, 1, A3, 1, c3, [byOf o]⟩, ⟨64, 2, A4, (segL zs).length, c4, segL zs⟩, ⟨64, 3, A5, 4, c5, be h 4⟩] := ⟨_, rfl⟩
  have hlo : w.heap.size ≤ w2.heap.size := by omega
  have hok : ∀ r ∈ rs, rawK.ok w5 (fun b => w2.heap.size ≤ b ∧ b < w5.heap.size) r := by
    intro r hr
    rw [hrs] at hr
    simp only [List.mem_cons, List.not_mem_nil, or_false] at hr
    rcases hr with rfl | rfl | rfl
    · exact ⟨hc3, hcm3, by3.bytS fun _ a ha => hA3 a ha⟩
    · exact ⟨hc4, hcm4, by4.bytS fun _ a ha => Nat.le_trans hz3 (hA4 a ha)⟩
    · exact ⟨hc5, hcm5, by5.bytS fun _ a ha => Nat.le_trans (Nat.le_trans hz3 hz4) (hA5 a ha)⟩
  have hrow := rows_lit w5 90 rs #[.int .i64 64, .int .i64 1, .slice A3 1 c3, .int .i64 64, .int .i64 2, .slice A4 (segL zs).length c4, .int .i64 64, .int .i64 3, .slice A5 4 c5] 3 (by rw [hrs]; rfl) (by rw [hrs]; rfl) hok (by unfold maxLen; omega)
  have hdat : rs.map dat = [(64, 1, [byOf o]), (64, 2, segL zs), (64, 3, be h 4)] := by rw [hrs]; rfl
  have hrl : rs.length = 3 := by rw [hrs]; rfl
  replace hrs := Lib.hid hrs
  refine held_callA 12 (by rfl) (by kernel_rfl) (by rfl) (fun KQ hKQ => ?_)
  go_simp
  have hb := (Below.refl w5.heap.size w5).alloc (Nat.le_refl _) (.cells #[.int .i64 64, .int .i64 1, .slice A3 1 c3, .int .i64 64, .int .i64 2, .slice A4 (segL zs).length c4, .int .i64 64, .int .i64 3, .slice A5 4 c5] 90)
  generalize w5.alloc (.cells #[.int .i64 64, .int .i64 1, .slice A3 1 c3, .int .i64 64, .int .i64 2, .slice A4 (segL zs).length c4, .int .i64 64, .int .i64 3, .slice A5 4 c5] 90) = w6 at *
  generalize hg5 : w5.heap.size = g5 at hrow hb ⊢
  subst hg5
  replace hq := hq.below hb hq.lt
  refine hKQ.out _ _ (hs4r.trans hb) (held_mono (S' := fun w' => Below w6.heap.size w6 w') (fun w' h => (hs4r.trans hb).trans (h.mono (hs4r.trans hb).size)) _ _ _ _ ?_)
  clear hKQ KQ
  replace hB := hB.trans ((hs4r.trans hb).mono hB.size)
  have hs5r : Below w6.heap.size w6 w6 := Below.refl _ _
  try simp only [Act.put, List.setIfInBounds_toArray, List.set_cons_zero, List.set_cons_succ]
  (refine held_takeA 13 (by rfl) ?_ (by kernel_rfl) (fun _ _ _ h => h) hs5r ?_ ?_; rotate_left; (focus (intro wq hSw; have hrd : ∀ b o, b < w6.heap.size → wq.cell? ⟨b, o, none⟩ = w6.cell? ⟨b, o, none⟩ := (fun b o h => hSw.cell (p := ⟨b, o, none⟩) h); go_simp; try with_reducible rfl; done)); try simp only [Act.put, List.setIfInBounds_toArray, List.set_cons_zero, List.set_cons_succ])
  clear hb by3 by4 by5 hN2 hok
  refine wpAnyH_done (by kernel_rfl) ?_ _
  try refine NoPanic.normal ?_
  have hz6 := hB.size
  have hlt6 : w5.heap.size < w6.heap.size := (hrow.own w5.heap.size rfl).2
  have hf3 : w6.cell? ⟨w.heap.size, 3, none⟩ = some (.int .i64 m) := hq.cellv 3 rfl
  have hf4 : w6.cell? ⟨w.heap.size, 4, none⟩ = some (.bool b) := hq.cellv 4 rfl
  replace hrl := Lib.hid hrl
  replace hdat := Lib.hid hdat
  have hwz : w.heap.size ≤ w5.heap.size := by omega
  cases b
  · go_wp2_with fail
    obtain ⟨A7, c7, he7, hc7, hcm7, hseen⟩ := hrow.seen (by omega)
    rw [hrl.out] at he7 hc7 hseen
    injection he7 with e1 e2 e3
    subst e1 e3
    refine (attrJoin_any w6 _ 3 3 rs (hseen.more fun b hb => hb.2) (by omega)).mono ?_
    rintro e w7 ⟨v7, rfl, own7, hb7⟩
    go_wp2_with fail
    go_ret
    refine ⟨v7, rfl, ?_, hB.trans (hb7.mono hz6)⟩
    rw [hat.out]
    have e : joinD (attrsD o zs h m false) = joinL rs := by rw [joinL_dat, hdat.out]; simp [attrsD]
    rw [e]
    exact own7.less hz6
  · go_wp2_with fail
    refine (put32_any w6 none 0 0 [] 0 Byt.none_ (by omega) (by omega) (m % 4294967296) (by omega) (by omega)).mono ?_
    rintro e w7 ⟨v7, rfl, own7, hb⟩
    rw [List.nil_append, Nat.zero_add] at own7
    obtain ⟨A7, c7, rfl, hc7, hcm7, by7, hA7⟩ := own7.any2
    replace hrow := hrow.below hb
    have hz7 := hb.size
    have hB7 := hB.trans (hb.mono hz6)
    clear own7
    obtain ⟨r, hr⟩ : ∃ r : RawV, r = ⟨128, 4, A7, 4, c7, be (m % 4294967296) 4⟩ := ⟨_, rfl⟩
    have hok : rawK.ok w7 (fun b => w6.heap.size ≤ b ∧ b < w7.heap.size) r := by rw [hr]; exact ⟨hc7, hcm7, by7.bytS fun _ a ha => hA7 a ha⟩
    have hcr : rawK.cel r = [.int .i64 128, .int .i64 4, .slice A7 4 c7] := by rw [hr]; rfl
    have hone := seen_one w7 90 r #[.int .i64 128, .int .i64 4, .slice A7 4 c7] (by rw [hcr]) hok (S' := fun b => b < w7.heap.size + 1) (fun b hb => hb.2) (Nat.lt_succ_self _) (fun b hb => by omega)
    have hby8 := (Below.refl w7.heap.size w7).alloc (Nat.le_refl _) (.cells #[.int .i64 128, .int .i64 4, .slice A7 4 c7] 90)
    have hz8 := hby8.size
    have hrow8 := hrow.alloc (.cells #[.int .i64 128, .int .i64 4, .slice A7 4 c7] 90)
    have hok8 : ∀ e ∈ [r], rawK.ok (w7.alloc (.cells #[.int .i64 128, .int .i64 4, .slice A7 4 c7] 90)) (fun b => w2.heap.size ≤ b ∧ b < (w7.alloc (.cells #[.int .i64 128, .int .i64 4, .slice A7 4 c7] 90)).heap.size ∧ (Value.slice (some ⟨w5.heap.size, 0, none⟩) 3 3).ownBlock ≠ some b) e := fun e he => by
      obtain rfl : e = r := by simpa using he
      exact rawK.more (rawK.keep hok fun p hp => hby8.cell hp.2) fun b hb => ⟨by omega, by omega, fun e2 => by injection e2 with e2; have e3 : w5.heap.size = b := e2; omega⟩
    go_wp2_with (at_builtin; refine wpList_rows raw_ok rfl (.tmp 22) (.tmp 28) rfl hrow8 rfl rfl hone hok8 (by rw [hrl.out]; unfold maxLen; omega) (by rw [hrl.out]; omega) (by omega) ?_; intro v9 w9 hrow9 hg9)
    have hb9 := hrow8.below_app hg9 (by omega)
    obtain ⟨A8, c8, rfl, hc8, hcm8, hseen⟩ := hrow9.seen (by omega)
    have hl4 : (rs ++ [r]).length = 4 := by rw [List.length_append, hrl.out]; rfl
    rw [hl4] at hc8 hseen
    rw [hl4]
    have hz9 := hb9.size
    have hB9 := (hB7.alloc (by omega) (.cells #[.int .i64 128, .int .i64 4, .slice A7 4 c7] 90)).trans (hb9.mono (by omega))
    refine (attrJoin_any w9 A8 4 c8 (rs ++ [r]) (hseen.more fun b hb => hb.2) (by omega)).mono ?_
    rintro e w10 ⟨v10, rfl, own10, hb10⟩
    go_wp2_with fail
    go_ret
    refine ⟨v10, rfl, ?_, hB9.trans (hb10.mono hB9.size)⟩
    rw [hat.out]
    have e : joinD (attrsD o zs h m true) = joinL (rs ++ [r]) := by rw [joinL_dat, List.map_append, hdat.out, hr]; rfl
    rw [e]
    exact own10.less hB9.size
theorem lives7_bytes : attrsB 0 [] 167772161 0 false = [64, 1, 1, 0, 64, 2, 0, 64, 3, 4, 10, 0, 0, 1] := by decide
end Go.Proofs.Ytfnclmacodchfaa
