/- open: the document's Bytes; plain; the document's example. -/
import Derived.Test.YtlpplclhjkbjbaaOpB
namespace Go.Proofs.Ytlpplclhjkbjbaa
set_option linter.unusedVariables false
open Go.RowKit

theorem lives8_bytes : bytesO 65001 90 1 [] = [4, 253, 233, 0, 90, 0, 0, 0, 1, 0] := by decide
set_option maxRecDepth 100000 in
theorem lives8_any (w : World) : Calls Try.prog 30 #[] w fun e w' => e = .returned (.bool true) ∧ Below w.heap.size w w' := by
  go_enter Try.func30, Try.ntmps30
  go_wp2_with fail
  refine (openBytes_any w 65001 90 1 none 0 0 [] Seen.none_ (by omega) (by omega) (by omega)).mono ?_
  rintro e w1 ⟨v1, rfl, own1, hB⟩
  rw [lives8_bytes, show ([4, 253, 233, 0, 90, 0, 0, 0, 1, 0] : List UInt8).length = 10 from rfl] at own1
  have hs := own1.str
  rw [show strB [4, 253, 233, 0, 90, 0, 0, 0, 1, 0] = ⟨#[4, 253, 233, 0, 90, 0, 0, 0, 1, 0]⟩ from rfl] at hs
  obtain ⟨A1, c1, rfl, _, _, _⟩ := own1.any
  go_wp2_with fail
  go_ret
  exact ⟨rfl, hB⟩
theorem byt_twoW (w : World) (x y : Int) : Byt (w.alloc (.cells #[.int .u8 (IntKind.u8.wrap x), .int .u8 (IntKind.u8.wrap y)] 5)) (w.heap.size + 1) (some ⟨w.heap.size, 0, none⟩) 2 [byOf x, byOf y] := by
  rw [IntKind.wrap_u8, IntKind.wrap_u8]; exact byt_two w x y
theorem byt_oneW (w : World) (x : UInt8) : Byt (w.alloc (.cells #[.int .u8 (x.toNat : Int)] 5)) (w.heap.size + 1) (some ⟨w.heap.size, 0, none⟩) 1 [x] := Byt.new w [x] 5 (0, 0)
theorem byt_head (w : World) (s : Nat) (h : s ≤ 200) : Byt (w.alloc (.cells #[.int .u8 (2 + (s : Int)), .int .u8 2, .int .u8 (s : Int)] 5)) (w.heap.size + 1) (some ⟨w.heap.size, 0, none⟩) 3 [byOf (s + 2), 2, byOf s] := by
  have hh := Byt.new w [byOf (s + 2), 2, byOf s] 5 (0, 0)
  have e : byCells [byOf (s + 2), 2, byOf s] = #[.int .u8 (2 + (s : Int)), .int .u8 2, .int .u8 (s : Int)] := by
    have h1 : ((s : Int) + 2) % 256 = 2 + s := by omega
    have h2 : (s : Int) % 256 = s := by omega
    simp [byCells, byOf_val, h1, h2]
  rw [e] at hh
  exact hh
theorem own_two' (w : World) (base : Nat) (hb : base ≤ w.heap.size) (x y : Int) : Byt (w.alloc (.cells #[.int .u8 (x % 256), .int .u8 (y % 256)] 5)) (w.heap.size + 1) (some ⟨w.heap.size, 0, none⟩) 2 [byOf x, byOf y] := byt_two w x y
set_option maxRecDepth 100000 in
set_option maxHeartbeats 8000000 in
theorem refBytes8_any (w : World) (a h id : Int) (A : Option Addr) (n c : Nat) (cs : List CapV) (hS : Seen capK w (fun b => b < w.heap.size) A n cs) (hn : n ≤ 100) (i0 : 0 ≤ id) (i1 : id ≤ 4294967295) :
    Calls Try.prog 35 #[.agg #[.int .i64 a, .int .i64 h, .int .u32 id, .slice A n c]] w fun e w' => ∃ v, e = .returned v ∧ OwnB w' w.heap.size v (bytesO a h id cs).length (bytesO a h id cs) ∧ Below w.heap.size w w' := by
  have hl := hS.1
  have hB := (Below.refl w.heap.size w).alloc (Nat.le_refl _) (.cells #[.int .i64 a, .int .i64 h, .int .u32 id, .slice A n c] 64)
  have hq := Blk.new w 64 #[.int .i64 a, .int .i64 h, .int .u32 id, .slice A n c]
  have snx : ∀ (u u' : World), Seen capK u (fun b => b < u.heap.size) A n cs → Below u.heap.size u u' → Seen capK u' (fun b => b < u'.heap.size) A n cs := fun u u' h hb => (h.below hb fun _ h => h).more fun b h => Nat.lt_of_lt_of_le h hb.size
  replace hS := snx _ _ hS hB
  go_enter Try.func35, Try.ntmps35
  go_wp2_with fail
  generalize w.alloc (.cells #[.int .i64 a, .int .i64 h, .int .u32 id, .slice A n c] 64) = w1 at *
  refine (refGood8_any w1 a h id A n c cs hS hn).mono ?_
  rintro e w2 ⟨rfl, hb⟩
  replace hS := snx _ _ hS hb
  replace hq := hq.below hb hq.lt
  replace hB := hB.trans (hb.mono hB.size)
  clear hb
  cases hg : goodO a h id cs
  · have e : [] = bytesO a h id cs := by unfold bytesO; rw [hg]; rfl
    replace e := Lib.hid e
    go_wp2_with fail
    go_ret
    exact ⟨_, rfl, by rw [← e.out]; exact OwnB.nil _ _, hB⟩
  have e : bytesO a h id cs = headO a h id ++ (if cs.length = 0 then [0] else [byOf (capSum cs + 2), 2, byOf (capSum cs)] ++ capsL cs) := if_pos hg
  have hat := Lib.hid e
  clear e
  have hgp : (1 ≤ a ∧ a ≤ 65535) ∧ (0 ≤ h ∧ h ≤ 65535) ∧ cs.all capOk = true ∧ capSum cs ≤ 200 := by have := hg; unfold goodO holdB at this; simp only [Bool.and_eq_true, Bool.or_eq_true, decide_eq_true_eq, beq_iff_eq, bne_iff_ne] at this; exact ⟨this.1.1.1, by omega, this.2⟩
  obtain ⟨ha, hh, hok, h200⟩ := hgp
  replace hok := Lib.hid hok
  replace hl := Lib.hid hl
  replace hg := Lib.hid hg
  have hnil := OwnB.nil w2 w2.heap.size
  have hz2 := hB.size
  have f3 : w2.cell? ⟨w.heap.size, 3, none⟩ = some (.slice A n c) := hq.cellv 3 rfl
  have lt2 := hq.lt
  go_wp2_with fail
  go_loopw [3, 5, 13] (fun v _ i wr => ∃ k : Nat, k ≤ n ∧ i = .int .i64 (k : Int) ∧ OwnB wr w2.heap.size v (capSum (cs.take k)) (capsL (cs.take k)) ∧ Below w2.heap.size w2 wr) (fun _ _ i _ => n - (intOf i).toNat)
  case atStart => exact ⟨0, Nat.zero_le _, rfl, hnil, Below.refl _ _⟩
  case round =>
  obtain ⟨k, hk, rfl, hown, hBr⟩ := hrel
  have hzr := hBr.size
  by_cases hlt : k < n
  · have hS2 := hS.below hBr fun _ hb => hb
    obtain ⟨b, off, r, rfl, hb, hr, hrok, c0, c1⟩ := cap_cells hS2 hlt
    have hbx := (Below.refl wr.heap.size wr).alloc (Nat.le_refl _) (.cells #[.int .i64 r.t, .slice r.A r.n r.c] 129)
    have hqx := Blk.new wr 129 #[.int .i64 r.t, .slice r.A r.n r.c]
    have hby : Byt wr w2.heap.size r.A r.n r.v := hrok.2.2.byt fun _ h => h
    have hby1 := hby.below (hbx.mono hzr)
    have hown1 := hown.below hbx
    have hzx := hbx.size
    have hki : (k : Int) < n := by omega
    have hro := List.all_eq_true.1 hok.out r (List.mem_of_getElem? hr)
    have hn100 : r.n ≤ 100 := by unfold capOk at hro; simp at hro; omega
    have hst := capSum_take cs k r hr
    have hct := capsL_take cs k r hr
    have hsl := capSum_le cs k
    replace hst := Lib.hid hst
    replace hct := Lib.hid hct
    go_wp2_with fail
    generalize wr.alloc (.cells #[.int .i64 r.t, .slice r.A r.n r.c] 129) = x1 at *
    have ltx := hqx.lt
    have y0 : x1.cell? ⟨wr.heap.size, 0, none⟩ = some (.int .i64 r.t) := hqx.cellv 0 rfl
    have y1 : x1.cell? ⟨wr.heap.size, 1, none⟩ = some (.slice r.A r.n r.c) := hqx.cellv 1 rfl
    -- region 7: 0 1 2 3 4 5 6 7 8M 9M 10 11 12M 13
    try refine wp_region_noPanic ?_
    have hs1r : (fun w' => ∀ o, w'.cell? ⟨wr.heap.size, o, none⟩ = x1.cell? ⟨wr.heap.size, o, none⟩) x1.drew := fun _ => rfl
    refine wp_region_held_drew (S := fun w' => ∀ o, w'.cell? ⟨wr.heap.size, o, none⟩ = x1.cell? ⟨wr.heap.size, o, none⟩) (by kernel_rfl) hs1r (fun _ => ?_)
    (refine held_takeA 0 (by rfl) ?_ (by kernel_rfl) (fun _ _ _ h => h) hs1r ?_ ?_; rotate_left; (focus (intro wq hSw; have hrd := hSw; go_simp; try with_reducible rfl; done)); try simp only [Act.put, List.setIfInBounds_toArray, List.set_cons_zero, List.set_cons_succ])
    (refine held_takeA 1 (by rfl) ?_ (by kernel_rfl) (fun _ _ _ h => h) hs1r ?_ ?_; rotate_left; (focus (intro wq hSw; have hrd := hSw; go_simp; try with_reducible rfl; done)); try simp only [Act.put, List.setIfInBounds_toArray, List.set_cons_zero, List.set_cons_succ])
    (refine held_takeA 2 (by rfl) ?_ (by kernel_rfl) (fun _ _ _ h => h) hs1r ?_ ?_; rotate_left; (focus (intro wq hSw; have hrd := hSw; go_simp; try with_reducible rfl; done)); try simp only [Act.put, List.setIfInBounds_toArray, List.set_cons_zero, List.set_cons_succ])
    (refine held_takeA 3 (by rfl) ?_ (by kernel_rfl) (fun _ _ _ h => h) hs1r ?_ ?_; rotate_left; (focus (intro wq hSw; have hrd := hSw; go_simp; try with_reducible rfl; done)); try simp only [Act.put, List.setIfInBounds_toArray, List.set_cons_zero, List.set_cons_succ])
    (refine held_takeA 4 (by rfl) ?_ (by kernel_rfl) (fun _ _ _ h => h) hs1r ?_ ?_; rotate_left; (focus (intro wq hSw; have hrd := hSw; go_simp; try with_reducible rfl; done)); try simp only [Act.put, List.setIfInBounds_toArray, List.set_cons_zero, List.set_cons_succ])
    (refine held_takeA 5 (by rfl) ?_ (by kernel_rfl) (fun _ _ _ h => h) hs1r ?_ ?_; rotate_left; (focus (intro wq hSw; have hrd := hSw; go_simp; try with_reducible rfl; done)); try simp only [Act.put, List.setIfInBounds_toArray, List.set_cons_zero, List.set_cons_succ])
    (refine held_takeA 6 (by rfl) ?_ (by kernel_rfl) (fun _ _ _ h => h) hs1r ?_ ?_; rotate_left; (focus (intro wq hSw; have hrd := hSw; go_simp; try with_reducible rfl; done)); try simp only [Act.put, List.setIfInBounds_toArray, List.set_cons_zero, List.set_cons_succ])
    (refine held_takeA 7 (by rfl) ?_ (by kernel_rfl) (fun _ _ _ h => h) hs1r ?_ ?_; rotate_left; (focus (intro wq hSw; have hrd := hSw; go_simp; try with_reducible rfl; done)); try simp only [Act.put, List.setIfInBounds_toArray, List.set_cons_zero, List.set_cons_succ])
    (refine held_takeA 10 (by rfl) ?_ (by kernel_rfl) (fun _ _ _ h => h) hs1r ?_ ?_; rotate_left; (focus (intro wq hSw; have hrd := hSw; go_simp; try with_reducible rfl; done)); try simp only [Act.put, List.setIfInBounds_toArray, List.set_cons_zero, List.set_cons_succ])
    (refine held_takeA 11 (by rfl) ?_ (by kernel_rfl) (fun _ _ _ h => h) hs1r ?_ ?_; rotate_left; (focus (intro wq hSw; have hrd := hSw; go_simp; try with_reducible rfl; done)); try simp only [Act.put, List.setIfInBounds_toArray, List.set_cons_zero, List.set_cons_succ])
    refine held_callA 8 (by rfl) (by kernel_rfl) (by rfl) (fun KQ hKQ => ?_)
    go_simp
    have byz := byt_twoW x1 r.t r.n
    have hbz := (Below.refl x1.heap.size x1).alloc (Nat.le_refl _) (.cells #[.int .u8 (IntKind.u8.wrap r.t), .int .u8 (IntKind.u8.wrap (r.n : Int))] 5)
    replace hbz := hbz.drew
    have byz' : Byt (x1.alloc (.cells #[.int .u8 (IntKind.u8.wrap r.t), .int .u8 (IntKind.u8.wrap (r.n : Int))] 5)).drew (x1.heap.size + 1) (some ⟨x1.heap.size, 0, none⟩) 2 [byOf r.t, byOf r.n] := byz.drew
    have hzz : (x1.alloc (.cells #[.int .u8 (IntKind.u8.wrap r.t), .int .u8 (IntKind.u8.wrap (r.n : Int))] 5)).drew.heap.size = x1.heap.size + 1 := by simp
    generalize (x1.alloc (.cells #[.int .u8 (IntKind.u8.wrap r.t), .int .u8 (IntKind.u8.wrap (r.n : Int))] 5)).drew = x2 at *
    have hown2 := hown1.below hbz
    have hby2 := hby1.below (hbz.mono (by omega))
    have hlow : ∀ k, u3.ownBlock = some k → w2.heap.size ≤ k ∧ k < wr.heap.size := World.ownsRow.lt hown
    have hs2r := (fun o => hbz.cell (p := ⟨wr.heap.size, o, none⟩) ltx)
    refine hKQ.out _ _ hs2r ?_
    clear hKQ KQ
    try simp only [Act.put, List.setIfInBounds_toArray, List.set_cons_zero, List.set_cons_succ]
    refine held_callA 9 (by rfl) (by kernel_rfl) (by rfl) (fun KQ hKQ => ?_)
    refine wp_app _ (.tmp 17) (.tmp 25) (by rfl) w2.heap.size _ _ _ (by rfl) hown2 _ _ 2 2 _ (by rfl) byz' (by omega) (by omega) ?_
    intro v3 x3 hown3 hg3 hd3
    have hb3 := hown2.below_app hg3 (by omega)
    have hk3 : ∀ o, x3.cell? ⟨wr.heap.size, o, none⟩ = x1.cell? ⟨wr.heap.size, o, none⟩ := fun o => by
      have e1 : x3.cell? ⟨wr.heap.size, o, none⟩ = x2.cell? ⟨wr.heap.size, o, none⟩ := by
        unfold World.cell?
        rw [hg3.block wr.heap.size (by omega) (fun e => by have := (hlow _ e.symm).2; omega)]
      exact e1.trans (hbz.cell (p := ⟨wr.heap.size, o, none⟩) ltx)
    have hby3 := hby2.below hb3
    have hz3 := hb3.size
    have hlow3 : ∀ k, v3.ownBlock = some k → k ≠ wr.heap.size := fun k e => by
      rcases hd3 with h | h
      · rw [h] at e; have := (hlow k e).2; omega
      · rw [h] at e; injection e with e; omega
    clear hd3 hg3
    have hs3r := hk3
    refine hKQ.out _ _ hs3r ?_
    clear hKQ KQ
    try simp only [Act.put, List.setIfInBounds_toArray, List.set_cons_zero, List.set_cons_succ]
    refine held_callA 12 (by rfl) (by kernel_rfl) (by rfl) (fun KQ hKQ => ?_)
    refine wp_app _ (.tmp 26) (.tmp 28) (by rfl) w2.heap.size _ _ _ (by rfl) hown3 _ _ r.n _ _ (by rfl) hby3 (by omega) (by omega) ?_
    intro v4 x4 hown4 hg4 hd4
    have hb4 := hown3.below_app hg4 (by omega)
    have hk4 : ∀ o, x4.cell? ⟨wr.heap.size, o, none⟩ = x1.cell? ⟨wr.heap.size, o, none⟩ := fun o => by
      have e1 : x4.cell? ⟨wr.heap.size, o, none⟩ = x3.cell? ⟨wr.heap.size, o, none⟩ := by
        unfold World.cell?
        rw [hg4.block wr.heap.size (by omega) (fun e => hlow3 _ e.symm rfl)]
      exact e1.trans (hk3 o)
    clear hd4 hg4
    have hs4r := hk4
    refine hKQ.out _ _ hs4r ?_
    clear hKQ KQ
    try simp only [Act.put, List.setIfInBounds_toArray, List.set_cons_zero, List.set_cons_succ]
    (refine held_takeA 13 (by rfl) ?_ (by kernel_rfl) (fun _ _ _ h => h) hs4r ?_ ?_; rotate_left; (focus (intro wq hSw; have hrd := hSw; go_simp; try with_reducible rfl; done)); try simp only [Act.put, List.setIfInBounds_toArray, List.set_cons_zero, List.set_cons_succ])
    refine wpAnyH_done (by kernel_rfl) ?_ _
    try refine NoPanic.normal ?_
    go_wp2_with fail
    have hball := (hbx.mono hzr).trans ((hbz.mono (by omega)).trans (hb3.trans hb4))
    refine ⟨⟨k + 1, by omega, by go_num, ?_, hBr.trans hball⟩, by simp [intOf]; omega⟩
    rw [hst.out, hct.out]
    have e1 : capSum (cs.take k) + (r.n + 2) = capSum (cs.take k) + 2 + r.n := by omega
    rw [e1]
    unfold capL
    rw [← List.append_assoc]
    exact hown4
  · obtain rfl : k = n := by omega
    have htk : cs.take k = cs := List.take_of_length_le (by rw [hl.out]; omega)
    rw [htk] at hown
    replace htk := Lib.hid htk
    obtain ⟨A5, c5, rfl, _, by5, _⟩ := hown.any
    replace hB := hB.trans (hBr.mono hz2)
    replace hq := hq.below hBr lt2
    have lt3 := hq.lt
    have g0 : wr.cell? ⟨w.heap.size, 0, none⟩ = some (.int .i64 a) := hq.cellv 0 rfl
    have g1 : wr.cell? ⟨w.heap.size, 1, none⟩ = some (.int .i64 h) := hq.cellv 1 rfl
    have hwa : IntKind.u64.wrap a = a := by rw [IntKind.wrap_u64]; omega
    have hwh : IntKind.u64.wrap h = h := by rw [IntKind.wrap_u64]; omega
    clear hown f3
    go_wp2_with fail
    -- region 9: 0M 1 2 3 4C 5 6 7 8C 9
    try refine wp_region_noPanic ?_
    have hs5r : Below wr.heap.size wr wr.drew := (Below.refl _ _).drew
    refine wp_region_held_drew (S := fun w' => Below wr.heap.size wr w') (by kernel_rfl) hs5r (fun _ => ?_)
    (refine held_takeA 1 (by rfl) ?_ (by kernel_rfl) (fun _ _ _ h => h) hs5r ?_ ?_; rotate_left; (focus (intro wq hSw; have hrd : ∀ b o, b < wr.heap.size → wq.cell? ⟨b, o, none⟩ = wr.cell? ⟨b, o, none⟩ := (fun b o h => hSw.cell (p := ⟨b, o, none⟩) h); go_simp; try with_reducible rfl; done)); try simp only [Act.put, List.setIfInBounds_toArray, List.set_cons_zero, List.set_cons_succ])
    (refine held_takeA 2 (by rfl) ?_ (by kernel_rfl) (fun _ _ _ h => h) hs5r ?_ ?_; rotate_left; (focus (intro wq hSw; have hrd : ∀ b o, b < wr.heap.size → wq.cell? ⟨b, o, none⟩ = wr.cell? ⟨b, o, none⟩ := (fun b o h => hSw.cell (p := ⟨b, o, none⟩) h); go_simp; try with_reducible rfl; done)); try simp only [Act.put, List.setIfInBounds_toArray, List.set_cons_zero, List.set_cons_succ])
    (refine held_takeA 3 (by rfl) ?_ (by kernel_rfl) (fun _ _ _ h => h) hs5r ?_ ?_; rotate_left; (focus (intro wq hSw; have hrd : ∀ b o, b < wr.heap.size → wq.cell? ⟨b, o, none⟩ = wr.cell? ⟨b, o, none⟩ := (fun b o h => hSw.cell (p := ⟨b, o, none⟩) h); go_simp; try with_reducible rfl; done)); try simp only [Act.put, List.setIfInBounds_toArray, List.set_cons_zero, List.set_cons_succ])
    (refine held_takeA 5 (by rfl) ?_ (by kernel_rfl) (fun _ _ _ h => h) hs5r ?_ ?_; rotate_left; (focus (intro wq hSw; have hrd : ∀ b o, b < wr.heap.size → wq.cell? ⟨b, o, none⟩ = wr.cell? ⟨b, o, none⟩ := (fun b o h => hSw.cell (p := ⟨b, o, none⟩) h); go_simp; try with_reducible rfl; done)); try simp only [Act.put, List.setIfInBounds_toArray, List.set_cons_zero, List.set_cons_succ])
    (refine held_takeA 6 (by rfl) ?_ (by kernel_rfl) (fun _ _ _ h => h) hs5r ?_ ?_; rotate_left; (focus (intro wq hSw; have hrd : ∀ b o, b < wr.heap.size → wq.cell? ⟨b, o, none⟩ = wr.cell? ⟨b, o, none⟩ := (fun b o h => hSw.cell (p := ⟨b, o, none⟩) h); go_simp; try with_reducible rfl; done)); try simp only [Act.put, List.setIfInBounds_toArray, List.set_cons_zero, List.set_cons_succ])
    (refine held_takeA 7 (by rfl) ?_ (by kernel_rfl) (fun _ _ _ h => h) hs5r ?_ ?_; rotate_left; (focus (intro wq hSw; have hrd : ∀ b o, b < wr.heap.size → wq.cell? ⟨b, o, none⟩ = wr.cell? ⟨b, o, none⟩ := (fun b o h => hSw.cell (p := ⟨b, o, none⟩) h); go_simp; try with_reducible rfl; done)); try simp only [Act.put, List.setIfInBounds_toArray, List.set_cons_zero, List.set_cons_succ])
    refine held_callA 0 (by rfl) (by kernel_rfl) (by rfl) (fun KQ hKQ => ?_)
    go_simp
    have by4 := byt_oneW wr 4
    have hb4 := ((Below.refl wr.heap.size wr).alloc (Nat.le_refl _) (.cells #[.int .u8 4] 5)).drew
    have hbd : Below wr.drew.heap.size wr.drew (wr.alloc (.cells #[.int .u8 4] 5)).drew := (Below.refl wr.drew.heap.size wr.drew).alloc (Nat.le_refl _) (.cells #[.int .u8 4] 5)
    replace by4 : Byt (wr.alloc (.cells #[.int .u8 4] 5)).drew (wr.alloc (.cells #[.int .u8 4] 5)).drew.heap.size (some ⟨wr.heap.size, 0, none⟩) 1 [4] := by4.more (by simp)
    generalize (wr.alloc (.cells #[.int .u8 4] 5)).drew = x1 at *
    generalize wr.heap.size = g4 at by4
    replace by5 := by5.nx hb4
    replace hq := hq.below hb4 lt3
    refine hKQ.out _ _ (hs5r.trans hbd) (held_mono (S' := fun w' => Below x1.heap.size x1 w') (fun w' h => (hs5r.trans hbd).trans (h.mono (hs5r.trans hbd).size)) _ _ _ _ ?_)
    clear hKQ KQ
    replace hB := hB.trans ((hs5r.trans hbd).mono hB.size)
    have hs6r : Below x1.heap.size x1 x1 := Below.refl _ _
    try simp only [Act.put, List.setIfInBounds_toArray, List.set_cons_zero, List.set_cons_succ]
    clear hb4 hbd
    refine held_callA 4 (by rfl) (by kernel_rfl) (by rfl) (fun KQ hKQ => ?_)
    go_simp
    refine (refPut_any x1 _ 1 1 _ _ by4 (Nat.le_refl _) (by omega) a (by omega) 2 (by omega)).mono ?_
    rintro e x2 ⟨v, rfl, own2, hb⟩
    obtain ⟨A6, c6, rfl, _, by6, _⟩ := own2.any
    replace by5 := by5.nx hb
    replace hq := hq.below hb hq.lt
    clear own2
    refine hKQ.out _ _ (hs6r.trans hb) (held_mono (S' := fun w' => Below x2.heap.size x2 w') (fun w' h => (hs6r.trans hb).trans (h.mono (hs6r.trans hb).size)) _ _ _ _ ?_)
    clear hKQ KQ
    replace hB := hB.trans ((hs6r.trans hb).mono hB.size)
    have hs7r : Below x2.heap.size x2 x2 := Below.refl _ _
    try simp only [Act.put, List.setIfInBounds_toArray, List.set_cons_zero, List.set_cons_succ]
    clear hb
    refine held_callA 8 (by rfl) (by kernel_rfl) (by rfl) (fun KQ hKQ => ?_)
    go_simp
    refine (refPut_any x2 A6 (1 + 2) c6 _ _ by6 (Nat.le_refl _) (by omega) h (by omega) 2 (by omega)).mono ?_
    rintro e x3 ⟨v, rfl, own3, hb⟩
    obtain ⟨A7, c7, rfl, _, by7, _⟩ := own3.any
    replace by5 := by5.nx hb
    replace hq := hq.below hb hq.lt
    clear own3
    refine hKQ.out _ _ (hs7r.trans hb) (held_mono (S' := fun w' => Below x3.heap.size x3 w') (fun w' h => (hs7r.trans hb).trans (h.mono (hs7r.trans hb).size)) _ _ _ _ ?_)
    clear hKQ KQ
    replace hB := hB.trans ((hs7r.trans hb).mono hB.size)
    have hs8r : Below x3.heap.size x3 x3 := Below.refl _ _
    try simp only [Act.put, List.setIfInBounds_toArray, List.set_cons_zero, List.set_cons_succ]
    (refine held_takeA 9 (by rfl) ?_ (by kernel_rfl) (fun _ _ _ h => h) hs8r ?_ ?_; rotate_left; (focus (intro wq hSw; have hrd : ∀ b o, b < x3.heap.size → wq.cell? ⟨b, o, none⟩ = x3.cell? ⟨b, o, none⟩ := (fun b o h => hSw.cell (p := ⟨b, o, none⟩) h); go_simp; try with_reducible rfl; done)); try simp only [Act.put, List.setIfInBounds_toArray, List.set_cons_zero, List.set_cons_succ])
    clear hb
    refine wpAnyH_done (by kernel_rfl) ?_ _
    try refine NoPanic.normal ?_
    have h2 : w.heap.size < x3.heap.size := hq.lt
    have g2 : x3.cell? ⟨w.heap.size, 2, none⟩ = some (.int .u32 id) := hq.cellv 2 rfl
    have hwi : IntKind.u64.wrap id = id := by rw [IntKind.wrap_u64]; omega
    go_wp2_with fail
    refine (refPut_any x3 A7 (1 + 2 + 2) c7 _ _ by7 (Nat.le_refl _) (by omega) id (by omega) 4 (by omega)).mono ?_
    rintro e x4 ⟨v8, rfl, own8, hb⟩
    have hh6 : [4] ++ be a 2 ++ be h 2 ++ be id 4 = headO a h id := rfl
    rw [hh6] at own8
    clear hh6
    replace by5 := by5.below hb
    replace hq := hq.below hb hq.lt
    have hz3 := hB.size
    have hz34 : x3.heap.size ≤ x4.heap.size := hb.size
    have hB3 := hB
    replace hB := hB.trans (hb.mono hz3)
    have h3 : x4.cell? ⟨w.heap.size, 3, none⟩ = some (.slice A k c) := hq.cellv 3 rfl
    have lt4 := hq.lt
    have hz4 := hB.size
    obtain ⟨A8, c8, rfl, _, _, _⟩ := own8.any
    clear by7
    by_cases h0 : k = 0
    · subst h0
      have by0 := byt_oneW x4 0
      have own8a := own8.alloc (.cells #[.int .u8 ((0 : UInt8).toNat : Int)] 5)
      rw [show (((0 : UInt8).toNat : Nat) : Int) = 0 from rfl] at by0 own8a
      have hbz := (Below.refl x4.heap.size x4).alloc (Nat.le_refl _) (.cells #[.int .u8 0] 5)
      go_wp2_with (at_builtin; refine wpList_app _ rfl (.tmp 49) (.tmp 50) rfl x3.heap.size _ _ _ rfl own8a _ _ 1 1 _ rfl by0 (by omega) (by simp; omega) ?_; intro v9 x5 own9 hg9 hd9; clear hd9)
      go_ret
      refine ⟨v9, rfl, ?_, hB3.trans ((hb.trans ((hbz.mono hz34).trans (own8a.below_app hg9 (by simp; omega)))).mono hz3)⟩
      rw [hat.out, if_pos hl.out]
      have hln := own9.len
      rw [← hln] at own9
      exact own9.less hz3
    have hnz : ((k : Int) == 0) = false := by rw [beq_eq_false_iff_ne]; omega
    have hw2 : IntKind.i64.wrap (2 + ((capSum cs : Nat) : Int)) = 2 + ((capSum cs : Nat) : Int) := IntWalk.i64_in _ (by omega)
    have by9 := byt_head x4 (capSum cs) h200
    have own8a := own8.alloc (.cells #[.int .u8 (2 + ((capSum cs : Nat) : Int)), .int .u8 2, .int .u8 ((capSum cs : Nat) : Int)] 5)
    have hbz := (Below.refl x4.heap.size x4).alloc (Nat.le_refl _) (.cells #[.int .u8 (2 + ((capSum cs : Nat) : Int)), .int .u8 2, .int .u8 ((capSum cs : Nat) : Int)] 5)
    go_wp2_with first
      | (at_builtin; refine wpList_app _ rfl (.tmp 52) (.tmp 60) rfl x3.heap.size _ _ _ rfl own8a _ _ 3 3 _ rfl by9 (by omega) (by simp; omega) ?_; intro v9 x5 own9 hg9 hd9; clear hd9; have hb9 := (hbz.mono hz34).trans (own8a.below_app hg9 (by simp; omega)); clear hg9; have hz9 := hb9.size; have by5' := by5.below hb9)
      | (at_builtin; refine wpList_app _ rfl (.tmp 61) (.tmp 62) rfl x3.heap.size _ _ _ rfl own9 _ A5 (capSum cs) c5 _ rfl by5' (by omega) (by omega) ?_; intro v10 x6 own10 hg10 hd10; clear hd10)
    go_ret
    refine ⟨v10, rfl, ?_, hB3.trans ((hb.trans (hb9.trans (own9.below_app hg10 (by omega)))).mono hz3)⟩
    rw [hat.out, if_neg (by rw [hl.out]; exact h0)]
    have hln := own10.len
    simp only [List.append_assoc, List.cons_append, List.nil_append] at own10 hln ⊢
    rw [← hln] at own10
    exact own10.less hz3
end Go.Proofs.Ytlpplclhjkbjbaa
