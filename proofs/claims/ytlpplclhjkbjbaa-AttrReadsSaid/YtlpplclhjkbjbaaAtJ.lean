/- attr: AttrJoins, the walk. -/
import Derived.Test.YtlpplclhjkbjbaaAtI
import Derived.Test.YtlpplclhjkbjbaaRow2
namespace Go.Proofs.Ytlpplclhjkbjbaa
set_option linter.unusedVariables false
open Go.ChangeShapes Go.WideShapes Go.ChangeAt Go.RowKit

section
variable {H : Type} {enc : TypeId × Value → H} {P : Program} {W : World} {base : Nat} {spare : Nat → Bool} {held : Bool} {r : Reach} {b0 : Nat}
/-- attributes as a law's argument. -/
theorem open_raws {t e e8 : TypeId} {fs : Array Field} {v : Value} {d : DataW H} {p : List MemPlace} {f0 f1 f2 : Field} (ht : P.underlying t = some (.slice e)) (hs : P.underlying e = some (.struct fs)) (hone : Go.Deep.oneCellFields P fs = true) (hC : P.cellsOf e = fs.size) (hz : fs.size = 3)
    (g0 : fs[0]? = some f0) (g1 : fs[1]? = some f1) (g2 : fs[2]? = some f2) (u0 : P.underlying f0.type = some (.int .i64)) (u1 : P.underlying f1.type = some (.int .i64)) (u2 : P.underlying f2.type = some (.slice e8)) (u8 : P.underlying e8 = some (.int .u8)) (c8 : P.cellsOf e8 = 1)
    (hv : Value.okWide P W r b0 t v) (h : DataW.Trod enc P W base spare held t v d p) :
    ∃ A len cap rs, v = .slice A len cap ∧ len ≤ cap ∧ cap ≤ maxLen ∧ Seen rawK W (fun b => b < W.heap.size) A len rs := by
  obtain ⟨A, len, cap, vs, rfl, h1, h2, h3, h4⟩ := open_rows ht hs hone hC (by omega) hv h
  rw [hz] at h3
  obtain ⟨rs, hrs⟩ := seen_of_flat (R := rawK) h3 fun i hi => by
    obtain ⟨n0, y0, t0⟩ := h4 i hi 0 f0 g0
    obtain ⟨n1, y1, t1⟩ := h4 i hi 1 f1 g1
    obtain ⟨n2, y2, t2⟩ := h4 i hi 2 f2 g2
    obtain ⟨z0, e0, _⟩ := field_int u0 t0
    obtain ⟨z1, e1, _⟩ := field_int u1 t1
    obtain ⟨A2, m, c, l, e2, q1, q2, q3⟩ := field_byt u2 u8 c8 t2
    rw [hz] at e0 e1 e2
    refine ⟨⟨z0, z1, A2, m, c, l⟩, fun j hj => ?_, q1, q2, q3.bytA⟩
    show [Value.int .i64 z0, .int .i64 z1, .slice A2 m c][j]? = some (vs (i * 3 + j))
    match j, hj with
    | 0, _ => rw [e0]; rfl
    | 1, _ => rw [e1]; rfl
    | 2, _ => rw [e2]; rfl
  exact ⟨A, len, cap, rs, rfl, h1, h2, hrs⟩
end
theorem strB_list (l : List UInt8) : (strB l).toList = l := by
  rw [Lib.toList_data]; simp [strB]
set_option maxRecDepth 100000 in
set_option maxHeartbeats 8000000 in
theorem joins_walk (A : Option Addr) (n c : Nat) (rs : List RawV) (w : World) (hc : n ≤ c) (hc2 : c ≤ maxLen) (hS : Seen rawK w (fun b => b < w.heap.size) A n rs) :
    Calls Try.prog 3 #[.slice A n c] w fun e w' => e = .returned (.bool true) ∧ Below w.heap.size w w' := by
  have hl := Lib.hid hS.1
  have snx : ∀ (u u' : World), Seen rawK u (fun b => b < u.heap.size) A n rs → Below u.heap.size u u' → Seen rawK u' (fun b => b < u'.heap.size) A n rs := fun u u' h hb => (h.below hb fun _ h => h).more fun b h => Nat.lt_of_lt_of_le h hb.size
  go_enter Try.func3, Try.ntmps3
  go_wp2_with fail
  refine (light7_any w A n c rs hS).mono ?_
  rintro e w1 ⟨x, rfl, hx, hB⟩
  replace hS := snx _ _ hS hB
  cases x
  · clear hx
    go_wp2_with fail
    refine (lives7_any _).mono ?_
    rintro e w9 ⟨rfl, hb⟩
    go_wp2_with fail
    go_ret
    exact ⟨rfl, hB.trans (hb.mono hB.size)⟩
  have hn30 := hx rfl
  clear hx
  go_wp2_with fail
  refine (attrJoin_any w1 A n c rs hS (by omega)).mono ?_
  rintro e w2 ⟨v2, rfl, own2, hb⟩
  replace hS := snx _ _ hS hb
  replace hB := hB.trans (hb.mono hB.size)
  clear hb
  have hjl := joinL_len rs
  rw [hl.out] at hjl
  have hjl2 : (joinL rs).length ≤ 10000000 := by omega
  clear hjl
  have hsp : splitL ⟨joinL rs, 0, 0⟩ = some ((rs.map dat).map cutD) := by rw [joinL_dat]; exact splitL_join _ _
  generalize hL : joinL rs = L at *
  replace hsp := Lib.hid hsp
  obtain ⟨A2, c2, rfl, hc2', hcm2, by2, _⟩ := own2.any2
  clear own2
  go_wp2_with fail
  -- region 4: 0 1 2 3C 4C 5 6
  try refine wp_region_noPanic ?_
  have hs1r : Below w2.heap.size w2 w2.drew := (Below.refl _ _).drew
  refine wp_region_held_drew (S := fun w' => Below w2.heap.size w2 w') (by kernel_rfl) hs1r (fun _ => ?_)
  (refine held_takeA 0 (by rfl) ?_ (by kernel_rfl) (fun _ _ _ h => h) hs1r ?_ ?_; rotate_left; (focus (intro wq hSw; have hrd : ∀ b o, b < w2.heap.size → wq.cell? ⟨b, o, none⟩ = w2.cell? ⟨b, o, none⟩ := (fun b o h => hSw.cell (p := ⟨b, o, none⟩) h); go_simp; try with_reducible rfl; done)); try simp only [Act.put, List.setIfInBounds_toArray, List.set_cons_zero, List.set_cons_succ])
  (refine held_takeA 1 (by rfl) ?_ (by kernel_rfl) (fun _ _ _ h => h) hs1r ?_ ?_; rotate_left; (focus (intro wq hSw; have q := run_str wq (by2.below hSw) c2; go_simp; try with_reducible rfl; done)); simp only [Act.put, List.setIfInBounds_toArray, List.set_cons_zero, List.set_cons_succ])
  (refine held_takeA 2 (by rfl) ?_ (by kernel_rfl) (fun _ _ _ h => h) hs1r ?_ ?_; rotate_left; (focus (intro wq hSw; have hrd : ∀ b o, b < w2.heap.size → wq.cell? ⟨b, o, none⟩ = w2.cell? ⟨b, o, none⟩ := (fun b o h => hSw.cell (p := ⟨b, o, none⟩) h); go_simp; try with_reducible rfl; done)); try simp only [Act.put, List.setIfInBounds_toArray, List.set_cons_zero, List.set_cons_succ])
  refine held_callA 3 (by rfl) (by kernel_rfl) (by rfl) (fun KQ hKQ => ?_)
  go_simp
  refine (plain7_any w2.drew A n c rs (hS.drew) (by omega)).mono ?_
  rintro e w3 ⟨v3, rfl, hrow, hb⟩
  obtain ⟨A3, c3, rfl, hc3, hcm3, hs3⟩ := hrow.seen (Nat.zero_le _)
  rw [hl.out] at hc3 hs3
  have hbf := (Below.refl w2.heap.size w2).drew.trans hb
  replace hS := snx _ _ hS hbf
  replace by2 := by2.nx hbf
  replace hs3 := hs3.more (S' := fun b => b < w3.heap.size) fun b hb => hb.2
  clear hrow hbf
  rw [hl.out]
  refine hKQ.out _ _ (hs1r.trans hb) (held_mono (S' := fun w' => Below w3.heap.size w3 w') (fun w' h => (hs1r.trans hb).trans (h.mono (hs1r.trans hb).size)) _ _ _ _ ?_)
  clear hKQ KQ
  replace hB := hB.trans ((hs1r.trans hb).mono hB.size)
  have hs2r : Below w3.heap.size w3 w3 := Below.refl _ _
  try simp only [Act.put, List.setIfInBounds_toArray, List.set_cons_zero, List.set_cons_succ]
  clear hb
  refine held_callA 4 (by rfl) (by kernel_rfl) (by rfl) (fun KQ hKQ => ?_)
  go_simp
  refine (refJoin_any w3 A3 n c3 rs hs3 (by omega)).mono ?_
  rintro e w4 ⟨v4, rfl, own4, hb⟩
  rw [hL] at own4
  obtain ⟨A4, c4, rfl, _, _, by4, _⟩ := own4.any2
  replace hS := snx _ _ hS hb
  replace by2 := by2.nx hb
  clear own4 hs3
  refine hKQ.out _ _ (hs2r.trans hb) (held_mono (S' := fun w' => Below w4.heap.size w4 w') (fun w' h => (hs2r.trans hb).trans (h.mono (hs2r.trans hb).size)) _ _ _ _ ?_)
  clear hKQ KQ
  replace hB := hB.trans ((hs2r.trans hb).mono hB.size)
  have hs3r : Below w4.heap.size w4 w4 := Below.refl _ _
  try simp only [Act.put, List.setIfInBounds_toArray, List.set_cons_zero, List.set_cons_succ]
  (refine held_takeA 5 (by rfl) ?_ (by kernel_rfl) (fun _ _ _ h => h) hs3r ?_ ?_; rotate_left; (focus (intro wq hSw; have q := run_str wq (by4.below hSw) c4; go_simp; try with_reducible rfl; done)); simp only [Act.put, List.setIfInBounds_toArray, List.set_cons_zero, List.set_cons_succ])
  (refine held_takeA 6 (by rfl) ?_ (by kernel_rfl) (fun _ _ _ h => h) hs3r ?_ ?_; rotate_left; (focus (intro wq hSw; have hrd : ∀ b o, b < w4.heap.size → wq.cell? ⟨b, o, none⟩ = w4.cell? ⟨b, o, none⟩ := (fun b o h => hSw.cell (p := ⟨b, o, none⟩) h); go_simp; try with_reducible rfl; done)); try simp only [Act.put, List.setIfInBounds_toArray, List.set_cons_zero, List.set_cons_succ])
  clear hb
  refine wpAnyH_done (by kernel_rfl) ?_ _
  try refine NoPanic.normal ?_
  clear by4
  go_wp2_with fail
  refine (split_any w4 A2 L.length c2 L by2 hjl2).mono ?_
  rintro e w5 ⟨hb, hP⟩
  rw [hsp.out] at hP
  obtain ⟨v5, ms, rfl, hrow, hms⟩ := hP
  obtain ⟨A5, c5, rfl, hc5, hcm5, hs5⟩ := hrow.seen (Nat.le_refl _)
  have hml : ms.length = n := by
    have := congrArg List.length hms
    simpa [hl.out] using this
  have hmj : joinL ms = L := by rw [joinL_dat, hms, joinD_cut, ← joinL_dat, hL]
  rw [hml] at hc5 hs5
  rw [hml]
  replace hs5 := hs5.more (S' := fun b => b < w5.heap.size) fun b hb => hb.2
  replace by2 := by2.nx hb
  replace hB := hB.trans (hb.mono hB.size)
  replace hms := Lib.hid hms
  replace hml := Lib.hid hml
  replace hmj := Lib.hid hmj
  replace hL := Lib.hid hL
  clear hb hrow hS
  unfold zF
  have hq := Blk.new w5 31 #[.int .i64 0, .int .i64 0, .slice none 0 0]
  have hb := (Below.refl w5.heap.size w5).alloc (Nat.le_refl _) (.cells #[.int .i64 0, .int .i64 0, .slice none 0 0] 31)
  replace by2 := by2.nx hb
  replace hs5 := (hs5.below hb fun _ h => h).more (S' := fun b => b < (w5.alloc (.cells #[.int .i64 0, .int .i64 0, .slice none 0 0] 31)).heap.size) fun b h => Nat.lt_of_lt_of_le h hb.size
  replace hB := hB.trans (hb.mono hB.size)
  clear hb
  go_wp2_with fail
  generalize w5.alloc (.cells #[.int .i64 0, .int .i64 0, .slice none 0 0] 31) = w6 at *
  have k0 : w6.cell? ⟨w5.heap.size, 0, none⟩ = some (.int .i64 0) := hq.cellv 0 rfl
  have lt5 := hq.lt
  -- region 7: 0 1 2 3 4 5 6 7 8 9 10 11 12C 13 14 15 16 17 18 19C 20 21
  try refine wp_region_noPanic ?_
  have hs4r : Below w6.heap.size w6 w6.drew := (Below.refl _ _).drew
  refine wp_region_held_drew (S := fun w' => Below w6.heap.size w6 w') (by kernel_rfl) hs4r (fun _ => ?_)
  (refine held_takeA 0 (by rfl) ?_ (by kernel_rfl) (fun _ _ _ h => h) hs4r ?_ ?_; rotate_left; (focus (intro wq hSw; have hrd : ∀ b o, b < w6.heap.size → wq.cell? ⟨b, o, none⟩ = w6.cell? ⟨b, o, none⟩ := (fun b o h => hSw.cell (p := ⟨b, o, none⟩) h); go_simp; try with_reducible rfl; done)); try simp only [Act.put, List.setIfInBounds_toArray, List.set_cons_zero, List.set_cons_succ])
  (refine held_takeA 1 (by rfl) ?_ (by kernel_rfl) (fun _ _ _ h => h) hs4r ?_ ?_; rotate_left; (focus (intro wq hSw; have hrd : ∀ b o, b < w6.heap.size → wq.cell? ⟨b, o, none⟩ = w6.cell? ⟨b, o, none⟩ := (fun b o h => hSw.cell (p := ⟨b, o, none⟩) h); go_simp; try with_reducible rfl; done)); try simp only [Act.put, List.setIfInBounds_toArray, List.set_cons_zero, List.set_cons_succ])
  (refine held_takeA 2 (by rfl) ?_ (by kernel_rfl) (fun _ _ _ h => h) hs4r ?_ ?_; rotate_left; (focus (intro wq hSw; have hrd : ∀ b o, b < w6.heap.size → wq.cell? ⟨b, o, none⟩ = w6.cell? ⟨b, o, none⟩ := (fun b o h => hSw.cell (p := ⟨b, o, none⟩) h); go_simp; try with_reducible rfl; done)); try simp only [Act.put, List.setIfInBounds_toArray, List.set_cons_zero, List.set_cons_succ])
  (refine held_takeA 3 (by rfl) ?_ (by kernel_rfl) (fun _ _ _ h => h) hs4r ?_ ?_; rotate_left; (focus (intro wq hSw; have hrd : ∀ b o, b < w6.heap.size → wq.cell? ⟨b, o, none⟩ = w6.cell? ⟨b, o, none⟩ := (fun b o h => hSw.cell (p := ⟨b, o, none⟩) h); go_simp; try with_reducible rfl; done)); try simp only [Act.put, List.setIfInBounds_toArray, List.set_cons_zero, List.set_cons_succ])
  (refine held_takeA 4 (by rfl) ?_ (by kernel_rfl) (fun _ _ _ h => h) hs4r ?_ ?_; rotate_left; (focus (intro wq hSw; have hrd : ∀ b o, b < w6.heap.size → wq.cell? ⟨b, o, none⟩ = w6.cell? ⟨b, o, none⟩ := (fun b o h => hSw.cell (p := ⟨b, o, none⟩) h); go_simp; try with_reducible rfl; done)); try simp only [Act.put, List.setIfInBounds_toArray, List.set_cons_zero, List.set_cons_succ])
  (refine held_takeA 5 (by rfl) ?_ (by kernel_rfl) (fun _ _ _ h => h) hs4r ?_ ?_; rotate_left; (focus (intro wq hSw; have hrd : ∀ b o, b < w6.heap.size → wq.cell? ⟨b, o, none⟩ = w6.cell? ⟨b, o, none⟩ := (fun b o h => hSw.cell (p := ⟨b, o, none⟩) h); go_simp; try with_reducible rfl; done)); try simp only [Act.put, List.setIfInBounds_toArray, List.set_cons_zero, List.set_cons_succ])
  (refine held_takeA 6 (by rfl) ?_ (by kernel_rfl) (fun _ _ _ h => h) hs4r ?_ ?_; rotate_left; (focus (intro wq hSw; have hrd : ∀ b o, b < w6.heap.size → wq.cell? ⟨b, o, none⟩ = w6.cell? ⟨b, o, none⟩ := (fun b o h => hSw.cell (p := ⟨b, o, none⟩) h); go_simp; try with_reducible rfl; done)); try simp only [Act.put, List.setIfInBounds_toArray, List.set_cons_zero, List.set_cons_succ])
  (refine held_takeA 7 (by rfl) ?_ (by kernel_rfl) (fun _ _ _ h => h) hs4r ?_ ?_; rotate_left; (focus (intro wq hSw; have hrd : ∀ b o, b < w6.heap.size → wq.cell? ⟨b, o, none⟩ = w6.cell? ⟨b, o, none⟩ := (fun b o h => hSw.cell (p := ⟨b, o, none⟩) h); go_simp; try with_reducible rfl; done)); try simp only [Act.put, List.setIfInBounds_toArray, List.set_cons_zero, List.set_cons_succ])
  (refine held_takeA 8 (by rfl) ?_ (by kernel_rfl) (fun _ _ _ h => h) hs4r ?_ ?_; rotate_left; (focus (intro wq hSw; have hrd : ∀ b o, b < w6.heap.size → wq.cell? ⟨b, o, none⟩ = w6.cell? ⟨b, o, none⟩ := (fun b o h => hSw.cell (p := ⟨b, o, none⟩) h); go_simp; try with_reducible rfl; done)); try simp only [Act.put, List.setIfInBounds_toArray, List.set_cons_zero, List.set_cons_succ])
  (refine held_takeA 9 (by rfl) ?_ (by kernel_rfl) (fun _ _ _ h => h) hs4r ?_ ?_; rotate_left; (focus (intro wq hSw; have hrd : ∀ b o, b < w6.heap.size → wq.cell? ⟨b, o, none⟩ = w6.cell? ⟨b, o, none⟩ := (fun b o h => hSw.cell (p := ⟨b, o, none⟩) h); go_simp; try with_reducible rfl; done)); try simp only [Act.put, List.setIfInBounds_toArray, List.set_cons_zero, List.set_cons_succ])
  (refine held_takeA 10 (by rfl) ?_ (by kernel_rfl) (fun _ _ _ h => h) hs4r ?_ ?_; rotate_left; (focus (intro wq hSw; have hrd : ∀ b o, b < w6.heap.size → wq.cell? ⟨b, o, none⟩ = w6.cell? ⟨b, o, none⟩ := (fun b o h => hSw.cell (p := ⟨b, o, none⟩) h); go_simp; try with_reducible rfl; done)); try simp only [Act.put, List.setIfInBounds_toArray, List.set_cons_zero, List.set_cons_succ])
  (refine held_takeA 11 (by rfl) ?_ (by kernel_rfl) (fun _ _ _ h => h) hs4r ?_ ?_; rotate_left; (focus (intro wq hSw; have hrd : ∀ b o, b < w6.heap.size → wq.cell? ⟨b, o, none⟩ = w6.cell? ⟨b, o, none⟩ := (fun b o h => hSw.cell (p := ⟨b, o, none⟩) h); go_simp; try with_reducible rfl; done)); try simp only [Act.put, List.setIfInBounds_toArray, List.set_cons_zero, List.set_cons_succ])
  (refine held_takeA 14 (by rfl) ?_ (by kernel_rfl) (fun _ _ _ h => h) hs4r ?_ ?_; rotate_left; (focus (intro wq hSw; have hrd : ∀ b o, b < w6.heap.size → wq.cell? ⟨b, o, none⟩ = w6.cell? ⟨b, o, none⟩ := (fun b o h => hSw.cell (p := ⟨b, o, none⟩) h); go_simp; try with_reducible rfl; done)); try simp only [Act.put, List.setIfInBounds_toArray, List.set_cons_zero, List.set_cons_succ])
  (refine held_takeA 15 (by rfl) ?_ (by kernel_rfl) (fun _ _ _ h => h) hs4r ?_ ?_; rotate_left; (focus (intro wq hSw; have q := run_str wq (by2.below hSw) c2; go_simp; try with_reducible rfl; done)); simp only [Act.put, List.setIfInBounds_toArray, List.set_cons_zero, List.set_cons_succ])
  refine held_callA 12 (by rfl) (by kernel_rfl) (by rfl) (fun KQ hKQ => ?_)
  go_simp
  refine (attrJoin_any w6.drew A5 n c5 ms hs5.drew (by omega)).mono ?_
  rintro e w7 ⟨v7, rfl, own7, hb⟩
  rw [hmj.out] at own7
  obtain ⟨A7, c7, rfl, _, _, by7, _⟩ := own7.any2
  clear own7
  refine hKQ.out _ _ (hs4r.trans hb) (held_mono (S' := fun w' => Below w7.heap.size w7 w') (fun w' h => (hs4r.trans hb).trans (h.mono (hs4r.trans hb).size)) _ _ _ _ ?_)
  clear hKQ KQ
  replace hB := hB.trans ((hs4r.trans hb).mono hB.size)
  have hs5r : Below w7.heap.size w7 w7 := Below.refl _ _
  try simp only [Act.put, List.setIfInBounds_toArray, List.set_cons_zero, List.set_cons_succ]
  (refine held_takeA 13 (by rfl) ?_ (by kernel_rfl) (fun _ _ _ h => h) hs5r ?_ ?_; rotate_left; (focus (intro wq hSw; have q := run_str wq (by7.below hSw) c7; go_simp; try with_reducible rfl; done)); simp only [Act.put, List.setIfInBounds_toArray, List.set_cons_zero, List.set_cons_succ])
  (refine held_takeA 16 (by rfl) ?_ (by kernel_rfl) (fun _ _ _ h => h) hs5r ?_ ?_; rotate_left; (focus (intro wq hSw; have hrd : ∀ b o, b < w7.heap.size → wq.cell? ⟨b, o, none⟩ = w7.cell? ⟨b, o, none⟩ := (fun b o h => hSw.cell (p := ⟨b, o, none⟩) h); go_simp; try with_reducible rfl; done)); try simp only [Act.put, List.setIfInBounds_toArray, List.set_cons_zero, List.set_cons_succ])
  (refine held_takeA 17 (by rfl) ?_ (by kernel_rfl) (fun _ _ _ h => h) hs5r ?_ ?_; rotate_left; (focus (intro wq hSw; have hrd : ∀ b o, b < w7.heap.size → wq.cell? ⟨b, o, none⟩ = w7.cell? ⟨b, o, none⟩ := (fun b o h => hSw.cell (p := ⟨b, o, none⟩) h); go_simp; try with_reducible rfl; done)); try simp only [Act.put, List.setIfInBounds_toArray, List.set_cons_zero, List.set_cons_succ])
  (refine held_takeA 18 (by rfl) ?_ (by kernel_rfl) (fun _ _ _ h => h) hs5r ?_ ?_; rotate_left; (focus (intro wq hSw; have hrd : ∀ b o, b < w7.heap.size → wq.cell? ⟨b, o, none⟩ = w7.cell? ⟨b, o, none⟩ := (fun b o h => hSw.cell (p := ⟨b, o, none⟩) h); go_simp; try with_reducible rfl; done)); try simp only [Act.put, List.setIfInBounds_toArray, List.set_cons_zero, List.set_cons_succ])
  clear hb
  refine held_callA 19 (by rfl) (by kernel_rfl) (by rfl) (fun KQ hKQ => ?_)
  go_simp
  refine (lives7_any _).mono ?_
  rintro e w8 ⟨rfl, hb⟩
  refine hKQ.out _ _ (hs5r.trans hb) (held_mono (S' := fun w' => Below w8.heap.size w8 w') (fun w' h => (hs5r.trans hb).trans (h.mono (hs5r.trans hb).size)) _ _ _ _ ?_)
  clear hKQ KQ
  replace hB := hB.trans ((hs5r.trans hb).mono hB.size)
  have hs6r : Below w8.heap.size w8 w8 := Below.refl _ _
  try simp only [Act.put, List.setIfInBounds_toArray, List.set_cons_zero, List.set_cons_succ]
  (refine held_takeA 20 (by rfl) ?_ (by kernel_rfl) (fun _ _ _ h => h) hs6r ?_ ?_; rotate_left; (focus (intro wq hSw; have hrd : ∀ b o, b < w8.heap.size → wq.cell? ⟨b, o, none⟩ = w8.cell? ⟨b, o, none⟩ := (fun b o h => hSw.cell (p := ⟨b, o, none⟩) h); go_simp; try with_reducible rfl; done)); try simp only [Act.put, List.setIfInBounds_toArray, List.set_cons_zero, List.set_cons_succ])
  (refine held_takeA 21 (by rfl) ?_ (by kernel_rfl) (fun _ _ _ h => h) hs6r ?_ ?_; rotate_left; (focus (intro wq hSw; have hrd : ∀ b o, b < w8.heap.size → wq.cell? ⟨b, o, none⟩ = w8.cell? ⟨b, o, none⟩ := (fun b o h => hSw.cell (p := ⟨b, o, none⟩) h); go_simp; try with_reducible rfl; done)); try simp only [Act.put, List.setIfInBounds_toArray, List.set_cons_zero, List.set_cons_succ])
  refine wpAnyH_done (by kernel_rfl) ?_ _
  try refine NoPanic.normal ?_
  go_wp2_with fail
  go_ret
  exact ⟨rfl, hB⟩
end Go.Proofs.Ytlpplclhjkbjbaa
