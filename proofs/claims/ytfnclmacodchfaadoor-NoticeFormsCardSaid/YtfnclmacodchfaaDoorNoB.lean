/- notice: Bytes, Parse, and the document's. -/
import Derived.Test.YtfnclmacodchfaaDoorNoA
import Derived.Deep.Cut
namespace Go.Proofs.YtfnclmacodchfaaDoor
set_option linter.unusedVariables false
open Go Go.RowKit

theorem OwnB.less {w : World} {base base' n : Nat} {v : Value} {l : List UInt8} (h : OwnB w base v n l) (hle : base' ≤ base) : OwnB w base' v n l := by
  refine ⟨h.1, ?_⟩
  rcases h.2 with h0 | ⟨g2, cap, cur, q1, q2, q3⟩
  · exact .inl h0
  · exact .inr ⟨g2, cap, cur, q1, by omega, q3⟩
theorem OwnB.any2 {w : World} {base n : Nat} {v : Value} {l : List UInt8} (h : OwnB w base v n l) : ∃ A cap, v = .slice A n cap ∧ n ≤ cap ∧ cap ≤ maxLen ∧ Byt w w.heap.size A n l ∧ (∀ a, A = some a → base ≤ a.block) := by
  obtain ⟨A1, c1, rfl, hc1, hby, hA⟩ := h.any
  have hc2 : c1 ≤ maxLen := by
    rcases h.2 with ⟨e, _⟩ | ⟨g, cap, cur, e, _, _, _, hm, _⟩
    · injection e with _ _ e; rw [e]; exact Nat.zero_le _
    · injection e with _ _ e; rw [e]; exact hm
  exact ⟨_, _, rfl, hc1, hc2, hby, hA⟩
theorem Byt.nx {w w' : World} {A : Option Addr} {n : Nat} {l : List UInt8} (h : Byt w w.heap.size A n l) (hb : Below w.heap.size w w') : Byt w' w'.heap.size A n l := (h.below hb).more hb.size
/-- a fault's bytes. -/
def noB (cd sb : Int) (d : List UInt8) : List UInt8 := if goodN cd sb d.length = true then [byOf cd, byOf sb] ++ d else []
theorem goodN_bd {cd sb : Int} {n : Nat} (h : goodN cd sb n = true) : 1 ≤ cd ∧ cd ≤ 255 ∧ 0 ≤ sb ∧ sb ≤ 255 ∧ n ≤ 4075 := by
  unfold goodN at h; simp at h; omega
theorem byt_two (w : World) (x y : Int) : Byt (w.alloc (.cells #[.int .u8 (x % 256), .int .u8 (y % 256)] 5)) (w.heap.size + 1) (some ⟨w.heap.size, 0, none⟩) 2 [byOf x, byOf y] := by
  have h := Byt.new w [byOf x, byOf y] 5 (0, 0)
  have e : byCells [byOf x, byOf y] = #[.int .u8 (x % 256), .int .u8 (y % 256)] := by simp [byCells, byOf_val]
  rw [e] at h
  exact h
theorem own_two2 (w : World) (base : Nat) (hb : base ≤ w.heap.size) (x y : Int) : OwnB (w.alloc (.cells #[.int .u8 (x % 256), .int .u8 (y % 256)] 5)) base (.slice (some ⟨w.heap.size, 0, none⟩) 2 2) 2 [byOf x, byOf y] := by
  have h := OwnB.lit (base := base) w [byOf x, byOf y] hb (by unfold maxLen; simp)
  have e : byCells [byOf x, byOf y] = #[.int .u8 (x % 256), .int .u8 (y % 256)] := by unfold byCells; simp [byOf_val]
  rw [e] at h
  exact h
/-- are bytes a fault's? -/
def okN (l : List UInt8) : Bool := decide (2 ≤ l.length) && decide (l.length ≤ 4077) && decide (1 ≤ byAt l 0)
/-- what 'Parse' gives: f, ok. -/
def PaN (w w' : World) (e : Ending) (l : List UInt8) : Prop :=
  if okN l = true then ∃ v, e = .returned (.tuple #[.agg #[.int .i64 (byAt l 0), .int .i64 (byAt l 1), v], .bool true]) ∧ OwnB w' w.heap.size v (l.drop 2).length (l.drop 2) else e = .returned (.tuple #[.agg #[.int .i64 0, .int .i64 0, .slice none 0 0], .bool false])
theorem okN_good (l : List UInt8) (h : 2 ≤ l.length) : okN l = goodN (byAt l 0) (byAt l 1) (l.length - 2) := by
  have b0 := byAt_lo l 0
  have b0' := byAt_hi l 0
  have b1 := byAt_lo l 1
  have b1' := byAt_hi l 1
  unfold okN goodN
  rw [Bool.eq_iff_iff]
  simp
  omega
set_option maxRecDepth 100000 in
set_option maxHeartbeats 4000000 in
theorem noBytes_any (w : World) (cd sb : Int) (A : Option Addr) (n c : Nat) (d : List UInt8) (h : Byt w w.heap.size A n d) (hn : n ≤ 1000000) : Calls Tryd.prog 10 #[.agg #[.int .i64 cd, .int .i64 sb, .slice A n c]] w fun e w' => ∃ v, e = .returned v ∧ OwnB w' w.heap.size v (noB cd sb d).length (noB cd sb d) ∧ Below w.heap.size w w' := by
  have hl := Lib.hid h.1
  have hB := (Below.refl w.heap.size w).alloc (Nat.le_refl _) (.cells #[.int .i64 cd, .int .i64 sb, .slice A n c] 24)
  have hq := Blk.new w 24 #[.int .i64 cd, .int .i64 sb, .slice A n c]
  replace h := h.nx hB
  go_enter Tryd.func10, Tryd.ntmps10
  go_upto_region 1 with (fail)
  generalize w.alloc (.cells #[.int .i64 cd, .int .i64 sb, .slice A n c] 24) = w1 at *
  have q0 : w1.cell? ⟨w.heap.size, 0, none⟩ = some (.int .i64 cd) := hq.cellv 0 rfl
  have q1 : w1.cell? ⟨w.heap.size, 1, none⟩ = some (.int .i64 sb) := hq.cellv 1 rfl
  have q2 : w1.cell? ⟨w.heap.size, 2, none⟩ = some (.slice A n c) := hq.cellv 2 rfl
  have ql := hq.lt
  have hgd := noGood_any w1 cd sb A n c
  cases hg : goodN cd sb n
  · have e9 := Lib.hid (show [] = noB cd sb d by unfold noB; rw [hl.out, hg]; rfl)
    rw [hg] at hgd
    replace hg := Lib.hid hg
    go_wp2_with fail
    refine hgd.mono ?_
    rintro e w2 ⟨rfl, hb⟩
    go_wp2_with fail
    go_ret
    exact ⟨_, rfl, by rw [← e9.out]; exact OwnB.nil _ _, hB.trans (hb.mono hB.size)⟩
  have e9 := Lib.hid (show [byOf cd, byOf sb] ++ d = noB cd sb d by unfold noB; rw [hl.out, hg]; rfl)
  have hgb := goodN_bd hg
  rw [hg] at hgd
  replace hg := Lib.hid hg
  go_wp2_with fail
  refine hgd.mono ?_
  rintro e w2 ⟨rfl, hb⟩
  clear q0 q1 q2 ql
  replace hq := hq.below hb hq.lt
  replace h := h.nx hb
  replace hB := hB.trans (hb.mono hB.size)
  clear hb
  have hz := hB.size
  have k0 : IntKind.u8.wrap cd = cd % 256 := IntKind.wrap_u8 _
  have k1 : IntKind.u8.wrap sb = sb % 256 := IntKind.wrap_u8 _
  have q0 : w2.cell? ⟨w.heap.size, 0, none⟩ = some (.int .i64 cd) := hq.cellv 0 rfl
  have q1 : w2.cell? ⟨w.heap.size, 1, none⟩ = some (.int .i64 sb) := hq.cellv 1 rfl
  have q2 : w2.cell? ⟨w.heap.size, 2, none⟩ = some (.slice A n c) := hq.cellv 2 rfl
  have ql := hq.lt
  have ho := own_two2 w2 w2.heap.size (Nat.le_refl _) cd sb
  have hb := (Below.refl w2.heap.size w2).alloc (Nat.le_refl _) (.cells #[.int .u8 (cd % 256), .int .u8 (sb % 256)] 5)
  have hz1 := hb.size
  have hb2 := hb.alloc hz1 (.cells #[.slice (some ⟨w2.heap.size, 0, none⟩) 2 2, .slice A n c] 22)
  have hr : Blk ((w2.alloc (.cells #[.int .u8 (cd % 256), .int .u8 (sb % 256)] 5)).alloc (.cells #[.slice (some ⟨w2.heap.size, 0, none⟩) 2 2, .slice A n c] 22)) (w2.heap.size + 1) 22 #[.slice (some ⟨w2.heap.size, 0, none⟩) 2 2, .slice A n c] := by
    have := Blk.new (w2.alloc (.cells #[.int .u8 (cd % 256), .int .u8 (sb % 256)] 5)) 22 #[.slice (some ⟨w2.heap.size, 0, none⟩) 2 2, .slice A n c]
    simpa using this
  have hz1b : w2.heap.size + 1 ≤ (w2.alloc (.cells #[.int .u8 (cd % 256), .int .u8 (sb % 256)] 5)).heap.size := by simp
  replace h := h.nx hb2
  replace hB := hB.trans (hb2.mono hz)
  have by5 := ((byt_two w2 cd sb).alloc hz1b (.cells #[.slice (some ⟨w2.heap.size, 0, none⟩) 2 2, .slice A n c] 22)).more (show w2.heap.size + 1 ≤ ((w2.alloc (.cells #[.int .u8 (cd % 256), .int .u8 (sb % 256)] 5)).alloc (.cells #[.slice (some ⟨w2.heap.size, 0, none⟩) 2 2, .slice A n c] 22)).heap.size by simp)
  go_wp2_with fail
  generalize (w2.alloc (.cells #[.int .u8 (cd % 256), .int .u8 (sb % 256)] 5)).alloc (.cells #[.slice (some ⟨w2.heap.size, 0, none⟩) 2 2, .slice A n c] 22) = w4 at *
  refine (concatB_any w4 _ hr.lt _ 2 2 [byOf cd, byOf sb] A n c d (hr.cellv 0 rfl) (hr.cellv 1 rfl) by5 h (by omega) hn).mono ?_
  rintro e w5 ⟨v5, rfl, own5, hb5⟩
  go_wp2_with fail
  go_ret
  refine ⟨_, rfl, ?_, hB.trans (hb5.mono hB.size)⟩
  rw [← e9.out, List.length_append, hl.out]
  exact own5.less hB.size
set_option maxRecDepth 100000 in
set_option maxHeartbeats 4000000 in
theorem refNoBytes_any (w : World) (cd sb : Int) (A : Option Addr) (n c : Nat) (d : List UInt8) (h : Byt w w.heap.size A n d) (hn : n ≤ 1000000) : Calls Tryd.prog 11 #[.agg #[.int .i64 cd, .int .i64 sb, .slice A n c]] w fun e w' => ∃ v, e = .returned v ∧ OwnB w' w.heap.size v (noB cd sb d).length (noB cd sb d) ∧ Below w.heap.size w w' := by
  have hl := Lib.hid h.1
  have hB := (Below.refl w.heap.size w).alloc (Nat.le_refl _) (.cells #[.int .i64 cd, .int .i64 sb, .slice A n c] 24)
  have hq := Blk.new w 24 #[.int .i64 cd, .int .i64 sb, .slice A n c]
  replace h := h.nx hB
  go_enter Tryd.func11, Tryd.ntmps11
  go_upto_region 1 with (fail)
  generalize w.alloc (.cells #[.int .i64 cd, .int .i64 sb, .slice A n c] 24) = w1 at *
  have q0 : w1.cell? ⟨w.heap.size, 0, none⟩ = some (.int .i64 cd) := hq.cellv 0 rfl
  have q1 : w1.cell? ⟨w.heap.size, 1, none⟩ = some (.int .i64 sb) := hq.cellv 1 rfl
  have q2 : w1.cell? ⟨w.heap.size, 2, none⟩ = some (.slice A n c) := hq.cellv 2 rfl
  have ql := hq.lt
  have hgd := refNoGood_any w1 cd sb A n c
  cases hg : goodN cd sb n
  · have e9 := Lib.hid (show [] = noB cd sb d by unfold noB; rw [hl.out, hg]; rfl)
    rw [hg] at hgd
    replace hg := Lib.hid hg
    go_wp2_with fail
    refine hgd.mono ?_
    rintro e w2 ⟨rfl, hb⟩
    go_wp2_with fail
    go_ret
    exact ⟨_, rfl, by rw [← e9.out]; exact OwnB.nil _ _, hB.trans (hb.mono hB.size)⟩
  have e9 := Lib.hid (show [byOf cd, byOf sb] ++ d = noB cd sb d by unfold noB; rw [hl.out, hg]; rfl)
  have hgb := goodN_bd hg
  rw [hg] at hgd
  replace hg := Lib.hid hg
  go_wp2_with fail
  refine hgd.mono ?_
  rintro e w2 ⟨rfl, hb⟩
  clear q0 q1 q2 ql
  replace hq := hq.below hb hq.lt
  replace h := h.nx hb
  replace hB := hB.trans (hb.mono hB.size)
  clear hb
  have hz := hB.size
  have k0 : IntKind.u8.wrap cd = cd % 256 := IntKind.wrap_u8 _
  have k1 : IntKind.u8.wrap sb = sb % 256 := IntKind.wrap_u8 _
  have q0 : w2.cell? ⟨w.heap.size, 0, none⟩ = some (.int .i64 cd) := hq.cellv 0 rfl
  have q1 : w2.cell? ⟨w.heap.size, 1, none⟩ = some (.int .i64 sb) := hq.cellv 1 rfl
  have q2 : w2.cell? ⟨w.heap.size, 2, none⟩ = some (.slice A n c) := hq.cellv 2 rfl
  have ql := hq.lt
  have ho := own_two2 w2 w.heap.size hz cd sb
  have hb := (Below.refl w2.heap.size w2).alloc (Nat.le_refl _) (.cells #[.int .u8 (cd % 256), .int .u8 (sb % 256)] 5)
  replace h := h.nx hb
  replace hB := hB.trans (hb.mono hz)
  have hz1 := hB.size
  go_wp2_with (at_builtin; refine wpList_app _ rfl (.tmp 12) (.tmp 14) rfl w.heap.size _ _ _ rfl ho _ _ _ _ _ rfl h (by omega) hz1 ?_; intro v5 w5 own5 hg5 hd5; clear hd5; have hb5 := ho.below_app hg5 hz1)
  go_ret
  refine ⟨_, rfl, ?_, hB.trans hb5⟩
  rw [← e9.out, List.length_append, hl.out]
  exact own5
set_option maxRecDepth 100000 in
set_option maxHeartbeats 8000000 in
theorem noParse_any (w : World) (A : Option Addr) (n c : Nat) (l : List UInt8) (h : Byt w w.heap.size A n l) (hn : n ≤ 1000000) (hc : n ≤ c) : Calls Tryd.prog 18 #[.slice A n c] w fun e w' => Below w.heap.size w w' ∧ PaN w w' e l := by
  have hi : (Tryd.prog.info? 24).map (·.size) = some 3 := by kernel_rfl
  have hl := Lib.hid h.1
  have hB := (Below.refl w.heap.size w).alloc (Nat.le_refl _) (.cells #[.int .i64 0, .int .i64 0, .slice none 0 0] 24)
  have hr := Blk.new w 24 #[.int .i64 0, .int .i64 0, .slice none 0 0]
  have hA0 : ∀ a, 0 < n → A = some a → a.block < w.heap.size := fun a h0 e => by
    obtain ⟨b, off, e2, hb, _⟩ := h.2 h0
    rw [e] at e2
    injection e2 with e2
    rw [e2]
    exact hb
  replace h := h.nx hB
  go_enter Tryd.func18, Tryd.ntmps18
  go_upto_region 1 with (fail)
  generalize w.alloc (.cells #[.int .i64 0, .int .i64 0, .slice none 0 0] 24) = w1 at *
  by_cases h2 : n < 2
  · have hno := Lib.hid (show ¬ okN l = true by unfold okN; rw [hl.out]; simp; omega)
    have d2 : (n : Int) < 2 := by omega
    go_wp2_with (refine wpList_store_blk rfl hr 24 (.tmp 2) (.tmp 8) rfl rfl rfl rfl hi (by simp [Value.oneCell']) ?_; intro w8 hr8 hg8)
    try rw [Exit.noGoto_ret]
    refine bodyPost_ret (results_ct rfl _ rfl (load_blk hr8 Tryd.underlying24 rfl hi)) rfl ?_
    have hB8 := below_own hB hg8 hB.size (Nat.le_refl _)
    refine ⟨hB8, ?_⟩
    unfold PaN
    rw [if_neg hno.out]
    rfl
  have d2 : ¬ ((n : Int) < 2) := by omega
  obtain ⟨b, off, rfl, hbl, hcl⟩ := h.2 (by omega)
  have c0 : w1.cell? ⟨b, off, none⟩ = some (.int .u8 (byAt l 0)) := by have := hcl 0 (by omega); rwa [Nat.add_zero] at this
  have c1 : w1.cell? ⟨b, off + 1, none⟩ = some (.int .u8 (byAt l 1)) := hcl 1 (by omega)
  have n0 : 0 < n := by omega
  have n1 : 1 < n := by omega
  have n0i : (0 : Int) < n := by omega
  have n1i : (1 : Int) < n := by omega
  have b0 := byAt_lo l 0
  have b0' := byAt_hi l 0
  have b1 := byAt_lo l 1
  have b1' := byAt_hi l 1
  have kb0 : IntKind.i64.wrap (byAt l 0) = byAt l 0 := IntWalk.i64_in _ (by omega)
  have kb1 : IntKind.i64.wrap (byAt l 1) = byAt l 1 := IntWalk.i64_in _ (by omega)
  have hok := okN_good l (by rw [hl.out]; omega)
  rw [hl.out] at hok
  obtain ⟨A2, hsl, hby⟩ := slice_drop (some ⟨b, off, none⟩) n c 2 (by omega) hc
  replace hsl : ∀ w, (Instr.slice 22 (.slice (some ⟨b, off, none⟩) n c) (some (.int .i64 2)) none none).run Tryd.prog w = .ok (.slice A2 (n - 2) (c - 2)) w := hsl
  have by2 := hby _ _ _ h
  go_upto_region 3 with (fail)
  have hwz := hB.size
  have hwl : w.heap.size < w1.heap.size := hr.lt
  have e3 : (l.drop 2).length = n - 2 := by rw [List.length_drop, hl.out]
  replace e3 := Lib.hid e3
  -- region 3: 0 1 2 3 4 5 6 7 8 9 10C 11 12M 13M
  try refine wp_region_noPanic ?_
  have hs1r : Below w1.heap.size w1 w1.drew := (Below.refl _ _).drew
  refine wp_region_held_drew (S := fun w' => Below w1.heap.size w1 w') (by kernel_rfl) hs1r (fun _ => ?_)
  (refine held_takeA 0 (by rfl) ?_ (by kernel_rfl) (fun _ _ _ h => h) hs1r ?_ ?_; rotate_left; (focus (intro wq hSw; have hrd : ∀ b o, b < w1.heap.size → wq.cell? ⟨b, o, none⟩ = w1.cell? ⟨b, o, none⟩ := (fun b o h => hSw.cell (p := ⟨b, o, none⟩) h); go_simp; try with_reducible rfl; done)); try simp only [Act.put, List.setIfInBounds_toArray, List.set_cons_zero, List.set_cons_succ])
  (refine held_takeA 1 (by rfl) ?_ (by kernel_rfl) (fun _ _ _ h => h) hs1r ?_ ?_; rotate_left; (focus (intro wq hSw; have hrd : ∀ b o, b < w1.heap.size → wq.cell? ⟨b, o, none⟩ = w1.cell? ⟨b, o, none⟩ := (fun b o h => hSw.cell (p := ⟨b, o, none⟩) h); go_simp; try with_reducible rfl; done)); try simp only [Act.put, List.setIfInBounds_toArray, List.set_cons_zero, List.set_cons_succ])
  (refine held_takeA 2 (by rfl) ?_ (by kernel_rfl) (fun _ _ _ h => h) hs1r ?_ ?_; rotate_left; (focus (intro wq hSw; have hrd : ∀ b o, b < w1.heap.size → wq.cell? ⟨b, o, none⟩ = w1.cell? ⟨b, o, none⟩ := (fun b o h => hSw.cell (p := ⟨b, o, none⟩) h); go_simp; try with_reducible rfl; done)); try simp only [Act.put, List.setIfInBounds_toArray, List.set_cons_zero, List.set_cons_succ])
  (refine held_takeA 3 (by rfl) ?_ (by kernel_rfl) (fun _ _ _ h => h) hs1r ?_ ?_; rotate_left; (focus (intro wq hSw; have hrd : ∀ b o, b < w1.heap.size → wq.cell? ⟨b, o, none⟩ = w1.cell? ⟨b, o, none⟩ := (fun b o h => hSw.cell (p := ⟨b, o, none⟩) h); go_simp; try with_reducible rfl; done)); try simp only [Act.put, List.setIfInBounds_toArray, List.set_cons_zero, List.set_cons_succ])
  (refine held_takeA 4 (by rfl) ?_ (by kernel_rfl) (fun _ _ _ h => h) hs1r ?_ ?_; rotate_left; (focus (intro wq hSw; have hrd : ∀ b o, b < w1.heap.size → wq.cell? ⟨b, o, none⟩ = w1.cell? ⟨b, o, none⟩ := (fun b o h => hSw.cell (p := ⟨b, o, none⟩) h); go_simp; try with_reducible rfl; done)); try simp only [Act.put, List.setIfInBounds_toArray, List.set_cons_zero, List.set_cons_succ])
  (refine held_takeA 5 (by rfl) ?_ (by kernel_rfl) (fun _ _ _ h => h) hs1r ?_ ?_; rotate_left; (focus (intro wq hSw; have hrd : ∀ b o, b < w1.heap.size → wq.cell? ⟨b, o, none⟩ = w1.cell? ⟨b, o, none⟩ := (fun b o h => hSw.cell (p := ⟨b, o, none⟩) h); go_simp; try with_reducible rfl; done)); try simp only [Act.put, List.setIfInBounds_toArray, List.set_cons_zero, List.set_cons_succ])
  (refine held_takeA 6 (by rfl) ?_ (by kernel_rfl) (fun _ _ _ h => h) hs1r ?_ ?_; rotate_left; (focus (intro wq hSw; have hrd : ∀ b o, b < w1.heap.size → wq.cell? ⟨b, o, none⟩ = w1.cell? ⟨b, o, none⟩ := (fun b o h => hSw.cell (p := ⟨b, o, none⟩) h); go_simp; try with_reducible rfl; done)); try simp only [Act.put, List.setIfInBounds_toArray, List.set_cons_zero, List.set_cons_succ])
  (refine held_takeA 7 (by rfl) ?_ (by kernel_rfl) (fun _ _ _ h => h) hs1r ?_ ?_; rotate_left; (focus (intro wq hSw; have hrd : ∀ b o, b < w1.heap.size → wq.cell? ⟨b, o, none⟩ = w1.cell? ⟨b, o, none⟩ := (fun b o h => hSw.cell (p := ⟨b, o, none⟩) h); go_simp; try with_reducible rfl; done)); try simp only [Act.put, List.setIfInBounds_toArray, List.set_cons_zero, List.set_cons_succ])
  (refine held_takeA 8 (by rfl) ?_ (by kernel_rfl) (fun _ _ _ h => h) hs1r ?_ ?_; rotate_left; (focus (intro wq hSw; have hrd : ∀ b o, b < w1.heap.size → wq.cell? ⟨b, o, none⟩ = w1.cell? ⟨b, o, none⟩ := (fun b o h => hSw.cell (p := ⟨b, o, none⟩) h); go_simp; try with_reducible rfl; done)); try simp only [Act.put, List.setIfInBounds_toArray, List.set_cons_zero, List.set_cons_succ])
  (refine held_takeA 9 (by rfl) ?_ (by kernel_rfl) (fun _ _ _ h => h) hs1r ?_ ?_; rotate_left; (focus (intro wq hSw; have hrd : ∀ b o, b < w1.heap.size → wq.cell? ⟨b, o, none⟩ = w1.cell? ⟨b, o, none⟩ := (fun b o h => hSw.cell (p := ⟨b, o, none⟩) h); go_simp; try with_reducible rfl; done)); try simp only [Act.put, List.setIfInBounds_toArray, List.set_cons_zero, List.set_cons_succ])
  refine held_two 10 12 (by rfl) (by rfl) (by kernel_rfl) (by rfl) (by rfl) (fun KQ hKQ => ?_) (fun KQ hKQ => ?_)
  · skip
    go_simp
    refine (clone_any w1.drew A2 (n - 2) (c - 2) (l.drop 2) w1.drew.heap.size by2 (Nat.le_refl _) (by omega)).mono ?_
    rintro e w3 ⟨v3, rfl, own3, hb3⟩
    have hxw3 := (Below.refl w1.heap.size w1).drew.trans hb3
    have hln := fun k (hk : v3.ownBlock = some k) => own3.lt k hk
    obtain ⟨A3, c3, rfl, _, _, by3, hA3⟩ := own3.any2
    have hs2r := hxw3
    refine hKQ.out _ _ hs2r ?_
    clear hKQ KQ
    try simp only [Act.put, List.setIfInBounds_toArray, List.set_cons_zero, List.set_cons_succ]
    (refine held_takeA 11 (by rfl) ?_ (by kernel_rfl) (fun _ _ _ h => h) hs2r ?_ ?_; rotate_left; (focus (intro wq hSw; have hrd : ∀ b o, b < w1.heap.size → wq.cell? ⟨b, o, none⟩ = w1.cell? ⟨b, o, none⟩ := (fun b o h => hSw.cell (p := ⟨b, o, none⟩) h); go_simp; try with_reducible rfl; done)); try simp only [Act.put, List.setIfInBounds_toArray, List.set_cons_zero, List.set_cons_succ])
    refine held_callA 12 (by rfl) (by kernel_rfl) (by rfl) (fun KQ hKQ => ?_)
    go_simp
    have hb4 := ((Below.refl w3.heap.size w3).alloc (Nat.le_refl _) (.cells #[.int .i64 0, .int .i64 0, .slice none 0 0] 24))
    have hr4 := (Blk.new w3 24 #[.int .i64 0, .int .i64 0, .slice none 0 0])
    have hxw4 := hxw3.trans (hb4.mono hxw3.size)
    replace own3 := own3.below hb4
    obtain ⟨g, hg⟩ : ∃ g, g = w3.heap.size := ⟨_, rfl⟩
    rw [← hg] at hr4
    have hgz : w1.heap.size ≤ g := by rw [hg]; exact hxw3.size
    replace hg := Lib.hid hg
    try rw [← hg.out]
    generalize w3.alloc (.cells #[.int .i64 0, .int .i64 0, .slice none 0 0] 24) = w4 at *
    have hgl := hr4.lt
    have hs3r := hxw4
    refine hKQ.out _ _ hs3r ?_
    clear hKQ KQ
    try simp only [Act.put, List.setIfInBounds_toArray, List.set_cons_zero, List.set_cons_succ]
    refine held_callA 13 (by rfl) (by kernel_rfl) (by rfl) (fun KQ hKQ => ?_)
    refine wp_store_blk hr4 24 (.tmp 4) (.tmp 20) (by rfl) (by rfl) (by rfl) (by rfl) (by exact hi) (by simp [Value.oneCell']) ?_
    intro w5 hr5 hg5
    have hzx := hxw4.size
    have hx5 := below_own hxw4 hg5 hzx hgz
    have own5 := own3.kept hg5 (by
      cases hv : (Value.slice A3 (n - 2) c3).ownBlock with
      | none => exact .inl rfl
      | some q => exact .inr (by intro e; injection e with e; have h9 := hln q hv; have h8 := hg.out; omega))
    have hs4r := hx5
    refine hKQ.out _ _ hs4r ?_
    clear hKQ KQ
    try simp only [Act.put]
    refine wpAnyH_done (by kernel_rfl) ?_ _
    try refine NoPanic.normal ?_
    replace hr := hr.below hx5 hr.lt
    replace hB := hB.trans (hx5.mono hB.size)
    have r0 : w5.cell? ⟨g, 0, none⟩ = some (.int .i64 (byAt l 0)) := hr5.cellv 0 rfl
    have r1 : w5.cell? ⟨g, 1, none⟩ = some (.int .i64 (byAt l 1)) := hr5.cellv 1 rfl
    have r2 : w5.cell? ⟨g, 2, none⟩ = some (.slice A3 (n - 2) c3) := hr5.cellv 2 rfl
    have rl := hr5.lt
    clear c0 c1 hsl hg5
    have hgd := noGood_any w5 (byAt l 0) (byAt l 1) A3 (n - 2) c3
    cases hgn : goodN (byAt l 0) (byAt l 1) (n - 2)
    · have hno := Lib.hid (show ¬ okN l = true by rw [hok, hgn]; simp)
      rw [hgn] at hgd
      replace hgn := Lib.hid hgn
      replace hok := Lib.hid hok
      go_wp2_with fail
      refine hgd.mono ?_
      rintro e w6 ⟨rfl, hb6⟩
      replace hr := hr.below hb6 hr.lt
      replace hB := hB.trans (hb6.mono hB.size)
      clear r0 r1 r2 rl hgd
      go_wp2_with (refine wpList_store_blk rfl hr 24 (.tmp 2) (.tmp 24) rfl rfl rfl rfl hi (by simp [Value.oneCell']) ?_; intro w8 hr8 hg8)
      try rw [Exit.noGoto_ret]
      refine bodyPost_ret (results_ct rfl _ rfl (load_blk hr8 Tryd.underlying24 rfl hi)) rfl ?_
      have hB8 := below_own hB hg8 hB.size (Nat.le_refl _)
      refine ⟨hB8, ?_⟩
      unfold PaN
      rw [if_neg hno.out]
      rfl
    have hyes := Lib.hid (show okN l = true by rw [hok, hgn])
    rw [hgn] at hgd
    replace hgn := Lib.hid hgn
    replace hok := Lib.hid hok
    go_wp2_with fail
    refine hgd.mono ?_
    rintro e w6 ⟨rfl, hb6⟩
    replace hr := hr.below hb6 hr.lt
    replace hr5 := hr5.below hb6 hr5.lt
    replace own5 := own5.below hb6
    replace hB := hB.trans (hb6.mono hB.size)
    clear r0 r1 r2 rl hgd
    have r0 : w6.cell? ⟨g, 0, none⟩ = some (.int .i64 (byAt l 0)) := hr5.cellv 0 rfl
    have r1 : w6.cell? ⟨g, 1, none⟩ = some (.int .i64 (byAt l 1)) := hr5.cellv 1 rfl
    have r2 : w6.cell? ⟨g, 2, none⟩ = some (.slice A3 (n - 2) c3) := hr5.cellv 2 rfl
    have rl := hr5.lt
    go_wp2_with (refine wpList_store_blk rfl hr 24 (.tmp 2) (.tmp 25) rfl rfl rfl rfl hi (by simp [Value.oneCell']) ?_; intro w8 hr8 hg8)
    try rw [Exit.noGoto_ret]
    refine bodyPost_ret (results_ct rfl _ rfl (load_blk hr8 Tryd.underlying24 rfl hi)) rfl ?_
    have hB8 := below_own hB hg8 hB.size (Nat.le_refl _)
    refine ⟨hB8, ?_⟩
    unfold PaN
    rw [if_pos hyes.out]
    refine ⟨_, rfl, ?_⟩
    rw [e3.out]
    refine OwnB.less (own5.kept hg8 ?_) (Nat.le_trans hwz (show w1.heap.size ≤ _ from Nat.le_refl _))
    cases hv : (Value.slice A3 (n - 2) c3).ownBlock with
    | none => exact .inl rfl
    | some q => exact .inr (by intro e; injection e with e; have h9 := (own3.lt q hv).1; have h7 : w1.drew.heap.size = w1.heap.size := rfl; have h6 := hxw3.size; omega)
  · skip
    go_simp
    have hb4 := ((Below.refl w1.heap.size w1).alloc (Nat.le_refl _) (.cells #[.int .i64 0, .int .i64 0, .slice none 0 0] 24)).drew
    have hr4 := (Blk.new w1 24 #[.int .i64 0, .int .i64 0, .slice none 0 0]).drew
    have hxw3 := hb4
    have by2b := by2.nx hb4
    obtain ⟨g, hg⟩ : ∃ g, g = w1.heap.size := ⟨_, rfl⟩
    rw [← hg] at hr4
    have hgz : w1.heap.size ≤ g := by rw [hg]; exact Nat.le_refl _
    replace hg := Lib.hid hg
    try rw [← hg.out]
    generalize (w1.alloc (.cells #[.int .i64 0, .int .i64 0, .slice none 0 0] 24)).drew = w3 at *
    have hgl := hr4.lt
    have hs5r := hxw3
    refine hKQ.out _ _ hs5r ?_
    clear hKQ KQ
    try simp only [Act.put, List.setIfInBounds_toArray, List.set_cons_zero, List.set_cons_succ]
    refine held_callA 10 (by rfl) (by kernel_rfl) (by rfl) (fun KQ hKQ => ?_)
    go_simp
    refine (clone_any w3 A2 (n - 2) (c - 2) (l.drop 2) w3.heap.size by2b (Nat.le_refl _) (by omega)).mono ?_
    rintro e w4 ⟨v3, rfl, own3, hb3⟩
    have hxw4 := hxw3.trans (hb3.mono hxw3.size)
    have hln := fun k (hk : v3.ownBlock = some k) => own3.lt k hk
    obtain ⟨A3, c3, rfl, _, _, by3, hA3⟩ := own3.any2
    replace hr4 := hr4.below hb3 hr4.lt
    have hs6r := hxw4
    refine hKQ.out _ _ hs6r ?_
    clear hKQ KQ
    try simp only [Act.put, List.setIfInBounds_toArray, List.set_cons_zero, List.set_cons_succ]
    (refine held_takeA 11 (by rfl) ?_ (by kernel_rfl) (fun _ _ _ h => h) hs6r ?_ ?_; rotate_left; (focus (intro wq hSw; have hrd : ∀ b o, b < w1.heap.size → wq.cell? ⟨b, o, none⟩ = w1.cell? ⟨b, o, none⟩ := (fun b o h => hSw.cell (p := ⟨b, o, none⟩) h); go_simp; try with_reducible rfl; done)); try simp only [Act.put, List.setIfInBounds_toArray, List.set_cons_zero, List.set_cons_succ])
    refine held_callA 13 (by rfl) (by kernel_rfl) (by rfl) (fun KQ hKQ => ?_)
    refine wp_store_blk hr4 24 (.tmp 4) (.tmp 20) (by rfl) (by rfl) (by rfl) (by rfl) (by exact hi) (by simp [Value.oneCell']) ?_
    intro w5 hr5 hg5
    have hzx := hxw4.size
    have hx5 := below_own hxw4 hg5 hzx hgz
    have own5 := own3.kept hg5 (by
      cases hv : (Value.slice A3 (n - 2) c3).ownBlock with
      | none => exact .inl rfl
      | some q => exact .inr (by intro e; injection e with e; have h9 := hln q hv; have h8 := hg.out; omega))
    have hs7r := hx5
    refine hKQ.out _ _ hs7r ?_
    clear hKQ KQ
    try simp only [Act.put]
    refine wpAnyH_done (by kernel_rfl) ?_ _
    try refine NoPanic.normal ?_
    replace hr := hr.below hx5 hr.lt
    replace hB := hB.trans (hx5.mono hB.size)
    have r0 : w5.cell? ⟨g, 0, none⟩ = some (.int .i64 (byAt l 0)) := hr5.cellv 0 rfl
    have r1 : w5.cell? ⟨g, 1, none⟩ = some (.int .i64 (byAt l 1)) := hr5.cellv 1 rfl
    have r2 : w5.cell? ⟨g, 2, none⟩ = some (.slice A3 (n - 2) c3) := hr5.cellv 2 rfl
    have rl := hr5.lt
    clear c0 c1 hsl hg5
    have hgd := noGood_any w5 (byAt l 0) (byAt l 1) A3 (n - 2) c3
    cases hgn : goodN (byAt l 0) (byAt l 1) (n - 2)
    · have hno := Lib.hid (show ¬ okN l = true by rw [hok, hgn]; simp)
      rw [hgn] at hgd
      replace hgn := Lib.hid hgn
      replace hok := Lib.hid hok
      go_wp2_with fail
      refine hgd.mono ?_
      rintro e w6 ⟨rfl, hb6⟩
      replace hr := hr.below hb6 hr.lt
      replace hB := hB.trans (hb6.mono hB.size)
      clear r0 r1 r2 rl hgd
      go_wp2_with (refine wpList_store_blk rfl hr 24 (.tmp 2) (.tmp 24) rfl rfl rfl rfl hi (by simp [Value.oneCell']) ?_; intro w8 hr8 hg8)
      try rw [Exit.noGoto_ret]
      refine bodyPost_ret (results_ct rfl _ rfl (load_blk hr8 Tryd.underlying24 rfl hi)) rfl ?_
      have hB8 := below_own hB hg8 hB.size (Nat.le_refl _)
      refine ⟨hB8, ?_⟩
      unfold PaN
      rw [if_neg hno.out]
      rfl
    have hyes := Lib.hid (show okN l = true by rw [hok, hgn])
    rw [hgn] at hgd
    replace hgn := Lib.hid hgn
    replace hok := Lib.hid hok
    go_wp2_with fail
    refine hgd.mono ?_
    rintro e w6 ⟨rfl, hb6⟩
    replace hr := hr.below hb6 hr.lt
    replace hr5 := hr5.below hb6 hr5.lt
    replace own5 := own5.below hb6
    replace hB := hB.trans (hb6.mono hB.size)
    clear r0 r1 r2 rl hgd
    have r0 : w6.cell? ⟨g, 0, none⟩ = some (.int .i64 (byAt l 0)) := hr5.cellv 0 rfl
    have r1 : w6.cell? ⟨g, 1, none⟩ = some (.int .i64 (byAt l 1)) := hr5.cellv 1 rfl
    have r2 : w6.cell? ⟨g, 2, none⟩ = some (.slice A3 (n - 2) c3) := hr5.cellv 2 rfl
    have rl := hr5.lt
    go_wp2_with (refine wpList_store_blk rfl hr 24 (.tmp 2) (.tmp 25) rfl rfl rfl rfl hi (by simp [Value.oneCell']) ?_; intro w8 hr8 hg8)
    try rw [Exit.noGoto_ret]
    refine bodyPost_ret (results_ct rfl _ rfl (load_blk hr8 Tryd.underlying24 rfl hi)) rfl ?_
    have hB8 := below_own hB hg8 hB.size (Nat.le_refl _)
    refine ⟨hB8, ?_⟩
    unfold PaN
    rw [if_pos hyes.out]
    refine ⟨_, rfl, ?_⟩
    rw [e3.out]
    refine OwnB.less (own5.kept hg8 ?_) (Nat.le_trans hwz (show w1.heap.size ≤ _ from hxw3.size))
    cases hv : (Value.slice A3 (n - 2) c3).ownBlock with
    | none => exact .inl rfl
    | some q => exact .inr (by intro e; injection e with e; have h9 := (own3.lt q hv).1; have h7 : w1.drew.heap.size = w1.heap.size := rfl; have h6 := hxw3.size; omega)
set_option maxRecDepth 100000 in
set_option maxHeartbeats 8000000 in
theorem refNoParse_any (w : World) (A : Option Addr) (n c : Nat) (l : List UInt8) (h : Byt w w.heap.size A n l) (hn : n ≤ 1000000) (hc : n ≤ c) : Calls Tryd.prog 19 #[.slice A n c] w fun e w' => Below w.heap.size w w' ∧ PaN w w' e l := by
  have hi : (Tryd.prog.info? 24).map (·.size) = some 3 := by kernel_rfl
  have hl := Lib.hid h.1
  have hB := (Below.refl w.heap.size w).alloc (Nat.le_refl _) (.cells #[.int .i64 0, .int .i64 0, .slice none 0 0] 24)
  have hr := Blk.new w 24 #[.int .i64 0, .int .i64 0, .slice none 0 0]
  have hA0 : ∀ a, 0 < n → A = some a → a.block < w.heap.size := fun a h0 e => by
    obtain ⟨b, off, e2, hb, _⟩ := h.2 h0
    rw [e] at e2
    injection e2 with e2
    rw [e2]
    exact hb
  replace h := h.nx hB
  go_enter Tryd.func19, Tryd.ntmps19
  go_upto_region 1 with (fail)
  generalize w.alloc (.cells #[.int .i64 0, .int .i64 0, .slice none 0 0] 24) = w1 at *
  by_cases h2 : n < 2
  · have hno := Lib.hid (show ¬ okN l = true by unfold okN; rw [hl.out]; simp; omega)
    have d2 : (n : Int) < 2 := by omega
    go_wp2_with (refine wpList_store_blk rfl hr 24 (.tmp 2) (.tmp 19) rfl rfl rfl rfl hi (by simp [Value.oneCell']) ?_; intro w8 hr8 hg8)
    try rw [Exit.noGoto_ret]
    refine bodyPost_ret (results_ct rfl _ rfl (load_blk hr8 Tryd.underlying24 rfl hi)) rfl ?_
    have hB8 := below_own hB hg8 hB.size (Nat.le_refl _)
    refine ⟨hB8, ?_⟩
    unfold PaN
    rw [if_neg hno.out]
    rfl
  have d2 : ¬ ((n : Int) < 2) := by omega
  obtain ⟨b, off, rfl, hbl, hcl⟩ := h.2 (by omega)
  have c0 : w1.cell? ⟨b, off, none⟩ = some (.int .u8 (byAt l 0)) := by have := hcl 0 (by omega); rwa [Nat.add_zero] at this
  have c1 : w1.cell? ⟨b, off + 1, none⟩ = some (.int .u8 (byAt l 1)) := hcl 1 (by omega)
  have n0 : 0 < n := by omega
  have n1 : 1 < n := by omega
  have n0i : (0 : Int) < n := by omega
  have n1i : (1 : Int) < n := by omega
  have b0 := byAt_lo l 0
  have b0' := byAt_hi l 0
  have b1 := byAt_lo l 1
  have b1' := byAt_hi l 1
  have kb0 : IntKind.i64.wrap (byAt l 0) = byAt l 0 := IntWalk.i64_in _ (by omega)
  have kb1 : IntKind.i64.wrap (byAt l 1) = byAt l 1 := IntWalk.i64_in _ (by omega)
  have hok := okN_good l (by rw [hl.out]; omega)
  rw [hl.out] at hok
  obtain ⟨A2, hsl, hby⟩ := slice_drop (some ⟨b, off, none⟩) n c 2 (by omega) hc
  replace hsl : ∀ w, (Instr.slice 22 (.slice (some ⟨b, off, none⟩) n c) (some (.int .i64 2)) none none).run Tryd.prog w = .ok (.slice A2 (n - 2) (c - 2)) w := hsl
  have by2 := hby _ _ _ h
  have hwl : w.heap.size < w1.heap.size := hr.lt
  have hwz := hB.size
  have e3 : (l.drop 2).length = n - 2 := by rw [List.length_drop, hl.out]
  have ks : IntKind.i64.wrap ((n : Int) - 2) = (n : Int) - 2 := IntWalk.i64_in _ (by omega)
  by_cases hbig : n ≤ 4077
  rotate_left
  · have hno := Lib.hid (show ¬ okN l = true by unfold okN; rw [hl.out]; simp; omega)
    have d5 : (4075 : Int) < (n : Int) - 2 := by omega
    replace e3 := Lib.hid e3
    replace hok := Lib.hid hok
    go_wp2_with (refine wpList_store_blk rfl hr 24 (.tmp 2) (.tmp 19) rfl rfl rfl rfl hi (by simp [Value.oneCell']) ?_; intro w8 hr8 hg8)
    try rw [Exit.noGoto_ret]
    refine bodyPost_ret (results_ct rfl _ rfl (load_blk hr8 Tryd.underlying24 rfl hi)) rfl ?_
    have hB8 := below_own hB hg8 hB.size (Nat.le_refl _)
    refine ⟨hB8, ?_⟩
    unfold PaN
    rw [if_neg hno.out]
    rfl
  have d5 : ¬ ((4075 : Int) < (n : Int) - 2) := by omega
  by_cases hz0 : byAt l 0 = 0
  · have hno := Lib.hid (show ¬ okN l = true by unfold okN; rw [hl.out, hz0]; simp)
    have d6 : (byAt l 0 == 0) = true := by simpa using hz0
    replace hz0 := Lib.hid hz0
    replace e3 := Lib.hid e3
    replace hok := Lib.hid hok
    go_wp2_with (refine wpList_store_blk rfl hr 24 (.tmp 2) (.tmp 19) rfl rfl rfl rfl hi (by simp [Value.oneCell']) ?_; intro w8 hr8 hg8)
    try rw [Exit.noGoto_ret]
    refine bodyPost_ret (results_ct rfl _ rfl (load_blk hr8 Tryd.underlying24 rfl hi)) rfl ?_
    have hB8 := below_own hB hg8 hB.size (Nat.le_refl _)
    refine ⟨hB8, ?_⟩
    unfold PaN
    rw [if_neg hno.out]
    rfl
  have d6 : (byAt l 0 == 0) = false := by simpa using hz0
  have hyes := Lib.hid (show okN l = true by unfold okN; rw [hl.out]; simp; omega)
  replace hz0 := Lib.hid hz0
  replace e3 := Lib.hid e3
  replace hok := Lib.hid hok
  go_upto_region 3 with (fail)
  have hbne : b ≠ w.heap.size := by have := hA0 _ (by omega) rfl; simp at this; omega
  have hlit := (OwnB.lit (base := w1.heap.size) w1 [] (Nat.le_refl _) (by simp)).drew
  rw [show byCells [] = #[] from rfl] at hlit
  replace hlit : OwnB (w1.alloc (.cells #[] 5)).drew w1.heap.size (.slice (some ⟨w1.heap.size, 0, none⟩) 0 0) 0 [] := hlit
  have hb4 := ((Below.refl w1.heap.size w1).alloc (Nat.le_refl _) (.cells #[] 5)).drew
  have by2b := by2.nx hb4
  -- region 3: 0 1 2 3 4 5 6 7 8M 9 10 11M 12 13M 14
  try refine wp_region_noPanic ?_
  have hs8r : w1.grownBy w1.drew (some w.heap.size) := grown_drew (grown_refl _ _)
  refine wp_region_held_drew (S := fun w' => w1.grownBy w' (some w.heap.size)) (by kernel_rfl) hs8r (fun _ => ?_)
  (refine held_takeA 0 (by rfl) ?_ (by kernel_rfl) (fun _ _ _ h => h) hs8r ?_ ?_; rotate_left; (focus (intro wq hSw; have hrd : ∀ b' o, b' < w1.heap.size → b' ≠ w.heap.size → wq.cell? ⟨b', o, none⟩ = w1.cell? ⟨b', o, none⟩ := (fun b' o h hne => grown_cell hSw h hne); go_simp; try with_reducible rfl; done)); try simp only [Act.put, List.setIfInBounds_toArray, List.set_cons_zero, List.set_cons_succ])
  (refine held_takeA 1 (by rfl) ?_ (by kernel_rfl) (fun _ _ _ h => h) hs8r ?_ ?_; rotate_left; (focus (intro wq hSw; have hrd : ∀ b' o, b' < w1.heap.size → b' ≠ w.heap.size → wq.cell? ⟨b', o, none⟩ = w1.cell? ⟨b', o, none⟩ := (fun b' o h hne => grown_cell hSw h hne); go_simp; try with_reducible rfl; done)); try simp only [Act.put, List.setIfInBounds_toArray, List.set_cons_zero, List.set_cons_succ])
  (refine held_takeA 2 (by rfl) ?_ (by kernel_rfl) (fun _ _ _ h => h) hs8r ?_ ?_; rotate_left; (focus (intro wq hSw; have hrd : ∀ b' o, b' < w1.heap.size → b' ≠ w.heap.size → wq.cell? ⟨b', o, none⟩ = w1.cell? ⟨b', o, none⟩ := (fun b' o h hne => grown_cell hSw h hne); go_simp; try with_reducible rfl; done)); try simp only [Act.put, List.setIfInBounds_toArray, List.set_cons_zero, List.set_cons_succ])
  (refine held_takeA 3 (by rfl) ?_ (by kernel_rfl) (fun _ _ _ h => h) hs8r ?_ ?_; rotate_left; (focus (intro wq hSw; have hrd : ∀ b' o, b' < w1.heap.size → b' ≠ w.heap.size → wq.cell? ⟨b', o, none⟩ = w1.cell? ⟨b', o, none⟩ := (fun b' o h hne => grown_cell hSw h hne); go_simp; try with_reducible rfl; done)); try simp only [Act.put, List.setIfInBounds_toArray, List.set_cons_zero, List.set_cons_succ])
  (refine held_takeA 4 (by rfl) ?_ (by kernel_rfl) (fun _ _ _ h => h) hs8r ?_ ?_; rotate_left; (focus (intro wq hSw; have hrd : ∀ b' o, b' < w1.heap.size → b' ≠ w.heap.size → wq.cell? ⟨b', o, none⟩ = w1.cell? ⟨b', o, none⟩ := (fun b' o h hne => grown_cell hSw h hne); go_simp; try with_reducible rfl; done)); try simp only [Act.put, List.setIfInBounds_toArray, List.set_cons_zero, List.set_cons_succ])
  (refine held_takeA 5 (by rfl) ?_ (by kernel_rfl) (fun _ _ _ h => h) hs8r ?_ ?_; rotate_left; (focus (intro wq hSw; have hrd : ∀ b' o, b' < w1.heap.size → b' ≠ w.heap.size → wq.cell? ⟨b', o, none⟩ = w1.cell? ⟨b', o, none⟩ := (fun b' o h hne => grown_cell hSw h hne); go_simp; try with_reducible rfl; done)); try simp only [Act.put, List.setIfInBounds_toArray, List.set_cons_zero, List.set_cons_succ])
  (refine held_takeA 6 (by rfl) ?_ (by kernel_rfl) (fun _ _ _ h => h) hs8r ?_ ?_; rotate_left; (focus (intro wq hSw; have hrd : ∀ b' o, b' < w1.heap.size → b' ≠ w.heap.size → wq.cell? ⟨b', o, none⟩ = w1.cell? ⟨b', o, none⟩ := (fun b' o h hne => grown_cell hSw h hne); go_simp; try with_reducible rfl; done)); try simp only [Act.put, List.setIfInBounds_toArray, List.set_cons_zero, List.set_cons_succ])
  (refine held_takeA 7 (by rfl) ?_ (by kernel_rfl) (fun _ _ _ h => h) hs8r ?_ ?_; rotate_left; (focus (intro wq hSw; have hrd : ∀ b' o, b' < w1.heap.size → b' ≠ w.heap.size → wq.cell? ⟨b', o, none⟩ = w1.cell? ⟨b', o, none⟩ := (fun b' o h hne => grown_cell hSw h hne); go_simp; try with_reducible rfl; done)); try simp only [Act.put, List.setIfInBounds_toArray, List.set_cons_zero, List.set_cons_succ])
  (refine held_takeA 9 (by rfl) ?_ (by kernel_rfl) (fun _ _ _ h => h) hs8r ?_ ?_; rotate_left; (focus (intro wq hSw; have hrd : ∀ b' o, b' < w1.heap.size → b' ≠ w.heap.size → wq.cell? ⟨b', o, none⟩ = w1.cell? ⟨b', o, none⟩ := (fun b' o h hne => grown_cell hSw h hne); go_simp; try with_reducible rfl; done)); try simp only [Act.put, List.setIfInBounds_toArray, List.set_cons_zero, List.set_cons_succ])
  (refine held_takeA 10 (by rfl) ?_ (by kernel_rfl) (fun _ _ _ h => h) hs8r ?_ ?_; rotate_left; (focus (intro wq hSw; have hrd : ∀ b' o, b' < w1.heap.size → b' ≠ w.heap.size → wq.cell? ⟨b', o, none⟩ = w1.cell? ⟨b', o, none⟩ := (fun b' o h hne => grown_cell hSw h hne); go_simp; try with_reducible rfl; done)); try simp only [Act.put, List.setIfInBounds_toArray, List.set_cons_zero, List.set_cons_succ])
  refine held_callA 8 (by rfl) (by kernel_rfl) (by rfl) (fun KQ hKQ => ?_)
  go_simp
  have hS3 := grown_of hb4 (Nat.le_refl _) (some w.heap.size)
  have hr3 := hr.below hb4 hr.lt
  have hz3 := hb4.size
  generalize (w1.alloc (.cells #[] 5)).drew = w3 at *
  have hs9r := hS3
  refine hKQ.out _ _ hs9r ?_
  clear hKQ KQ
  try simp only [Act.put, List.setIfInBounds_toArray, List.set_cons_zero, List.set_cons_succ]
  refine held_callA 11 (by rfl) (by kernel_rfl) (by rfl) (fun KQ hKQ => ?_)
  refine wp_app w3 (.tmp 28) (.tmp 30) (by rfl) w1.heap.size _ 0 [] (by rfl) hlit _ A2 (n - 2) (c - 2) (l.drop 2) (by rfl) by2b (by omega) hz3 ?_
  intro v4 w4 own4 hg4 hd4
  clear hd4
  have hb5 := hlit.below_app hg4 hz3
  have hx4 := hb4.trans hb5
  have hr4 := hr3.below hb5 hr.lt
  have hS4 := grown_of hx4 (Nat.le_refl _) (some w.heap.size)
  have hln := fun k (hk : v4.ownBlock = some k) => own4.lt k hk
  rw [Nat.zero_add, List.nil_append] at own4
  obtain ⟨A3, c3, rfl, _, _, by3, hA3⟩ := own4.any2
  have hs10r := hS4
  refine hKQ.out _ _ hs10r ?_
  clear hKQ KQ
  try simp only [Act.put, List.setIfInBounds_toArray, List.set_cons_zero, List.set_cons_succ]
  (refine held_takeA 12 (by rfl) ?_ (by kernel_rfl) (fun _ _ _ h => h) hs10r ?_ ?_; rotate_left; (focus (intro wq hSw; have hrd : ∀ b' o, b' < w1.heap.size → b' ≠ w.heap.size → wq.cell? ⟨b', o, none⟩ = w1.cell? ⟨b', o, none⟩ := (fun b' o h hne => grown_cell hSw h hne); go_simp; try with_reducible rfl; done)); try simp only [Act.put, List.setIfInBounds_toArray, List.set_cons_zero, List.set_cons_succ])
  refine held_callA 13 (by rfl) (by kernel_rfl) (by rfl) (fun KQ hKQ => ?_)
  refine wp_store_blk hr4 24 (.tmp 2) (.tmp 32) (by rfl) (by rfl) (by rfl) (by rfl) (by exact hi) (by simp [Value.oneCell']) ?_
  intro w5 hr5 hg5
  have own5 := own4.kept hg5 (by
    cases hv : (Value.slice A3 (n - 2) c3).ownBlock with
    | none => exact .inl rfl
    | some q => exact .inr (by intro e; injection e with e; have h9 := (hln q hv).1; omega))
  have hS5 := grown_trans hS4 hg5
  have hB4 := hB.trans (hx4.mono hwz)
  have hB5 := below_own hB4 hg5 hB4.size (Nat.le_refl _)
  have hs11r := hS5
  refine hKQ.out _ _ hs11r ?_
  clear hKQ KQ
  try simp only [Act.put]
  (refine held_takeA 14 (by rfl) ?_ (by kernel_rfl) (fun _ _ _ h => h) hs11r ?_ ?_; rotate_left; (focus (intro wq hSw; have hrd : ∀ b' o, b' < w1.heap.size → b' ≠ w.heap.size → wq.cell? ⟨b', o, none⟩ = w1.cell? ⟨b', o, none⟩ := (fun b' o h hne => grown_cell hSw h hne); go_simp; try with_reducible rfl; done)); try simp only [Act.put, List.setIfInBounds_toArray, List.set_cons_zero, List.set_cons_succ])
  refine wpAnyH_done (by kernel_rfl) ?_ _
  try refine NoPanic.normal ?_
  go_wp2_with fail
  try rw [Exit.noGoto_ret]
  refine bodyPost_ret (results_ct rfl _ rfl (load_blk hr5 Tryd.underlying24 rfl hi)) rfl ?_
  refine ⟨hB5, ?_⟩
  unfold PaN
  rw [if_pos hyes.out]
  refine ⟨_, rfl, ?_⟩
  rw [e3.out]
  exact OwnB.less own5 hwz
end Go.Proofs.YtfnclmacodchfaaDoor
