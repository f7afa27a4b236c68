import Derived.Test.YtecmhakapomepaaGreatMConfigForms31
import Derived.Test.YtecmhakapomepaaGreatMConfigForms20
import Derived.Test.YtecmhakapomepaaGreatMConfigForms2
import Derived.Deep.DeepCutAuto
/- config: the document's bytes of a configuration. -/
namespace Go.Proofs.YtecmhakapomepaaGreat
set_option linter.unusedVariables false
open Go Go.RowKit

theorem ownB_ne {w : World} {base n g : Nat} {v : Value} {l : List UInt8} {T : TypeId} {cs : Array Value} (h : OwnB w base v n l) (hb : Blk w g T cs) (hne : 5 ≠ T) : some g ≠ v.ownBlock := by
  rcases h.2 with ⟨q, _⟩ | ⟨g2, cap, cur, q, _, hc, _⟩
  · rw [q]; simp [Value.ownBlock]
  · rw [q]
    intro e
    simp [Value.ownBlock] at e
    subst e
    have hc2 := hc
    rw [show w.heap[g]? = some _ from hb] at hc2
    injection hc2 with hc2
    injection hc2 with _ hc2
    exact hne hc2.symm
theorem bz_one (x : Int) : bz x 1 = [byOf x] := by
  have : byOf (x % 18446744073709551616) = byOf x := by unfold byOf; congr 2; omega
  simp [bz, be, this]
theorem refPutZ (w : World) (A : Option Addr) (n c : Nat) (l : List UInt8) (h : Byt w w.heap.size A n l) (hn : n ≤ 100000000) (x : Int) (size : Nat) (h4 : size ≤ 4) (y : Int) (hy : y = x % 18446744073709551616) :
    Calls Tryz.prog 40 #[.slice A n c, .int .u64 y, .int .i64 (size : Int)] w fun e w' => ∃ v, e = .returned v ∧ OwnB w' w.heap.size v (n + size) (l ++ bz x size) ∧ Below w.heap.size w w' := by
  subst hy
  exact refPut_any w A n c l w.heap.size h (Nat.le_refl _) hn _ (by omega) size h4
theorem two_bytes (w : World) (y z : Int) : Byt (w.alloc (.cells #[.int .u8 (y % 256), .int .u8 (z % 256)] 5)) (w.heap.size + 1) (some ⟨w.heap.size, 0, none⟩) 2 (bz y 1 ++ bz z 1) := by
  have h := Byt.new w [byOf y, byOf z] 5 (0, 0)
  rw [show byCells [byOf y, byOf z] = #[.int .u8 (y % 256), .int .u8 (z % 256)] from by simp [byCells, byOf_val]] at h
  rw [bz_one, bz_one]
  exact h
theorem one_byteZ (w : World) (z : Int) : Byt (w.alloc (.cells #[.int .u8 (z % 256)] 5)) (w.heap.size + 1) (some ⟨w.heap.size, 0, none⟩) 1 (bz z 1) := by
  rw [bz_one]; exact one_byte w z
theorem ix4_0 : ∀ (x0 x1 x2 x3 : Value) (w : World), (Instr.index 91 (.agg #[x0, x1, x2, x3]) (.int .i64 0)).run Tryz.prog w = .ok x0 w := fun _ _ _ _ _ => by kernel_rfl
theorem ix4_1 : ∀ (x0 x1 x2 x3 : Value) (w : World), (Instr.index 91 (.agg #[x0, x1, x2, x3]) (.int .i64 1)).run Tryz.prog w = .ok x1 w := fun _ _ _ _ _ => by kernel_rfl
theorem ix4_2 : ∀ (x0 x1 x2 x3 : Value) (w : World), (Instr.index 91 (.agg #[x0, x1, x2, x3]) (.int .i64 2)).run Tryz.prog w = .ok x2 w := fun _ _ _ _ _ => by kernel_rfl
theorem ix4_3 : ∀ (x0 x1 x2 x3 : Value) (w : World), (Instr.index 91 (.agg #[x0, x1, x2, x3]) (.int .i64 3)).run Tryz.prog w = .ok x3 w := fun _ _ _ _ _ => by kernel_rfl
theorem ix3_0 : ∀ (x0 x1 x2 : Value) (w : World), (Instr.index 92 (.agg #[x0, x1, x2]) (.int .i64 0)).run Tryz.prog w = .ok x0 w := fun _ _ _ _ => by kernel_rfl
theorem ix3_1 : ∀ (x0 x1 x2 : Value) (w : World), (Instr.index 92 (.agg #[x0, x1, x2]) (.int .i64 1)).run Tryz.prog w = .ok x1 w := fun _ _ _ _ => by kernel_rfl
theorem ix3_2 : ∀ (x0 x1 x2 : Value) (w : World), (Instr.index 92 (.agg #[x0, x1, x2]) (.int .i64 2)).run Tryz.prog w = .ok x2 w := fun _ _ _ _ => by kernel_rfl
theorem ix6_0 : ∀ (x0 x1 x2 x3 x4 x5 : Value) (w : World), (Instr.index 93 (.agg #[x0, x1, x2, x3, x4, x5]) (.int .i64 0)).run Tryz.prog w = .ok x0 w := fun _ _ _ _ _ _ _ => by kernel_rfl
theorem ix6_1 : ∀ (x0 x1 x2 x3 x4 x5 : Value) (w : World), (Instr.index 93 (.agg #[x0, x1, x2, x3, x4, x5]) (.int .i64 1)).run Tryz.prog w = .ok x1 w := fun _ _ _ _ _ _ _ => by kernel_rfl
theorem ix6_2 : ∀ (x0 x1 x2 x3 x4 x5 : Value) (w : World), (Instr.index 93 (.agg #[x0, x1, x2, x3, x4, x5]) (.int .i64 2)).run Tryz.prog w = .ok x2 w := fun _ _ _ _ _ _ _ => by kernel_rfl
theorem ix6_3 : ∀ (x0 x1 x2 x3 x4 x5 : Value) (w : World), (Instr.index 93 (.agg #[x0, x1, x2, x3, x4, x5]) (.int .i64 3)).run Tryz.prog w = .ok x3 w := fun _ _ _ _ _ _ _ => by kernel_rfl
theorem ix6_4 : ∀ (x0 x1 x2 x3 x4 x5 : Value) (w : World), (Instr.index 93 (.agg #[x0, x1, x2, x3, x4, x5]) (.int .i64 4)).run Tryz.prog w = .ok x4 w := fun _ _ _ _ _ _ _ => by kernel_rfl
theorem ix6_5 : ∀ (x0 x1 x2 x3 x4 x5 : Value) (w : World), (Instr.index 93 (.agg #[x0, x1, x2, x3, x4, x5]) (.int .i64 5)).run Tryz.prog w = .ok x5 w := fun _ _ _ _ _ _ _ => by kernel_rfl
theorem ownB_lt {w : World} {base n k : Nat} {v : Value} {l : List UInt8} (h : OwnB w base v n l) (hk : v.ownBlock = some k) : base ≤ k ∧ k < w.heap.size := by
  rcases h.2 with ⟨q, _⟩ | ⟨g2, cap, cur, q, hlo, hc, _⟩
  · rw [q] at hk; cases hk
  · rw [q] at hk
    simp [Value.ownBlock] at hk
    subst hk
    exact ⟨hlo, (Array.getElem?_eq_some_iff.1 hc).1⟩
theorem blk_byt1 {w : World} {m : Nat} {z : Int} (h : Blk w m 5 #[.int .u8 (IntKind.u8.wrap z)]) : Byt w w.heap.size (some ⟨m, 0, none⟩) 1 (bz z 1) := by
  rw [bz_one]
  refine ⟨rfl, fun _ => ⟨m, 0, rfl, h.lt, fun j hj => ?_⟩⟩
  obtain rfl : j = 0 := by omega
  rw [Nat.zero_add]
  refine (h.cell 0).trans ?_
  show some (Value.int .u8 (z % 256)) = some (Value.int .u8 ((byOf z).toNat : Int))
  rw [byOf_val]
theorem blk_byt2 {w : World} {m : Nat} {y z : Int} (h : Blk w m 5 #[.int .u8 (IntKind.u8.wrap y), .int .u8 (IntKind.u8.wrap z)]) : Byt w w.heap.size (some ⟨m, 0, none⟩) 2 (bz y 1 ++ bz z 1) := by
  rw [bz_one, bz_one]
  refine ⟨rfl, fun _ => ⟨m, 0, rfl, h.lt, fun j hj => ?_⟩⟩
  rw [Nat.zero_add]
  refine (h.cell j).trans ?_
  match j, hj with
  | 0, _ =>
    show some (Value.int .u8 (y % 256)) = some (Value.int .u8 ((byOf y).toNat : Int))
    rw [byOf_val]
  | 1, _ =>
    show some (Value.int .u8 (z % 256)) = some (Value.int .u8 ((byOf z).toNat : Int))
    rw [byOf_val]
/-- bytes on the way, in the call's own memory, and a block that lies there too. -/
def CutR (w0 : World) (B : Nat) (x : List UInt8) (a : Nat) (T : TypeId) (cs : Array Value) (s : Value) (w : World) : Prop :=
  OwnB w B s x.length x ∧ Below B w0 w ∧ Blk w a T cs ∧ B ≤ w.heap.size
set_option maxRecDepth 100000 in
set_option maxHeartbeats 16000000 in
theorem refBytesC_any (w : World) (c : CfgV) (h : CfgIn w c) (hs : CfgSm c) : Calls Tryz.prog 9 #[.agg (cfgC c)] w fun e w' => ∃ v, e = .returned v ∧ OwnB w' w.heap.size v (outY c).length (outY c) ∧ Below w.heap.size w w' := by
  have hB := (Below.refl w.heap.size w).alloc (Nat.le_refl _) (.cells (cfgC c) 41)
  have hq := Blk.new w 41 (cfgC c)
  have hC := h.nx hB
  have hiC : (Tryz.prog.info? 41).map (·.size) = some (cfgC c).size := by kernel_rfl
  obtain ⟨A3, hA3⟩ : ∃ A, A = c.pA := ⟨_, rfl⟩
  obtain ⟨A4, hA4⟩ : ∃ A, A = c.vA := ⟨_, rfl⟩
  obtain ⟨A5, hA5⟩ : ∃ A, A = c.sA := ⟨_, rfl⟩
  go_enter Tryz.func9, Tryz.ntmps9
  go_upto_region 1 with (fail)
  generalize w.alloc (.cells (cfgC c) 41) = w1 at *
  go_wp2_with (refine wpList_load_blk rfl hq 41 (.tmp 1) rfl rfl Tryz.underlying41 rfl hiC ?_)
  refine (refCheck_any w1 c hC hs).mono ?_
  rintro e w3 ⟨rfl, hb⟩
  replace hC := hC.nx hb
  replace hq := hq.below hb hq.lt
  replace hB := hB.trans (hb.mono hB.size)
  clear hb
  by_cases h0 : partC c = 0
  · have e1 : errC c = 0 := by unfold errC; rw [if_pos h0]
    have e2 : outY c = cfgY c := by unfold outY; rw [if_pos h0]
    rw [e1, h0]
    clear e1
    replace h0 := Lib.hid h0
    replace e2 := Lib.hid e2
    obtain ⟨B, hBe⟩ : ∃ B, B = w3.heap.size := ⟨_, rfl⟩
    have hS3 := hC.peers
    have hS4 := hC.vips
    have hS5 := hC.sites
    rw [← hBe] at hS3 hS4 hS5
    rw [← hA3] at hS3
    rw [← hA4] at hS4
    rw [← hA5] at hS5
    have hql : w.heap.size < B := by rw [hBe]; exact hq.lt
    have hq3 := hq
    have hBw : w.heap.size ≤ B := by omega
    have hBn : B ≤ w3.heap.size := by omega
    have hCw := Lib.hid hC
    clear hC hq
    have hD := Below.refl B w3
    replace hBe := Lib.hid hBe
    have hP1 := Lib.hid hS3.1
    have hV1 := Lib.hid hS4.1
    have hT1 := Lib.hid hS5.1
    have hsp := hs.p
    have hsv := hs.v
    have hss := hs.s
    have hid := h.id_
    have hown := h.own_
    unfold IsU at hid hown
    replace hA3 := Lib.hid hA3
    replace hA4 := Lib.hid hA4
    replace hA5 := Lib.hid hA5
    have ek : ∀ i v, (cfgC c)[i]? = some v → ∀ {W : World}, Below B w3 W → W.cell? ⟨w.heap.size, i, none⟩ = some v := fun i v hi W hD => (hq3.below hD hql).cellv i hi
    replace ek := Lib.hid ek
    obtain ⟨x0, hx0⟩ : ∃ x : List UInt8, x = [] := ⟨_, rfl⟩
    have hob : OwnB w3 B (.slice none 0 0) x0.length x0 := by rw [hx0]; exact OwnB.nil _ _
    have hy0 : x0.length ≤ 0 := by rw [hx0]; exact Nat.le_refl _
    have hz0 : x0.length = 0 := by rw [hx0]; rfl
    replace hx0 := Lib.hid hx0
    have q0 := ek.out 0 (.int .i64 c.as_) rfl hD
    have ql : w.heap.size < w3.heap.size := by omega
    have hby : Byt w3 w3.heap.size none 0 x0 := ⟨hz0, fun h => absurd h (by omega)⟩
    go_wp2_with fail
    refine (refPutZ w3 none 0 0 x0 hby (by omega) (c.as_) 2 (by omega) _ (rfl)).mono ?_
    rintro e v1 ⟨v, rfl, hob, hb⟩
    replace hob := ownB_less hob hBn
    replace hD := hD.trans (hb.mono hBn)
    replace hBn := Nat.le_trans hBn hb.size
    rw [← hz0] at hob
    clear hb hby q0 ql 
    obtain ⟨x1, hx1⟩ : ∃ x, x = x0 ++ (bz (c.as_) 2) := ⟨_, rfl⟩
    have hz1 : x1.length = x0.length + 2 := by rw [hx1, List.length_append]; simp [bz_len]
    rw [← hx1, ← hz1] at hob
    have hy1 : x1.length ≤ 2 := by omega
    replace hx1 := Lib.hid hx1
    clear hz1
    have q1 := ek.out 1 (.int .u32 c.id) rfl hD
    have q2 := ek.out 2 (.int .u32 c.own) rfl hD
    have ql : w.heap.size < v1.heap.size := by omega
    obtain ⟨A, cp, rfl, -, -, hby, -⟩ := hob.any2
    go_upto_region 5 with (fail)
    -- region 5: 0 1 2 3 4C 5 6 7 8C 9
    try refine wp_region_noPanic ?_
    have hs1r : Below v1.heap.size v1 v1.drew := (Below.refl _ _).drew
    refine wp_region_held_drew (S := fun w' => Below v1.heap.size v1 w') (by kernel_rfl) hs1r (fun _ => ?_)
    (refine held_takeA 0 (by rfl) ?_ (by kernel_rfl) (fun _ _ _ h => h) hs1r ?_ ?_; rotate_left; (focus (intro wq hSw; have hrd : ∀ b o, b < v1.heap.size → wq.cell? ⟨b, o, none⟩ = v1.cell? ⟨b, o, none⟩ := (fun b o h => hSw.cell (p := ⟨b, o, none⟩) h); go_simp; try with_reducible rfl; done)); try simp only [Act.put, List.setIfInBounds_toArray, List.set_cons_zero, List.set_cons_succ])
    (refine held_takeA 1 (by rfl) ?_ (by kernel_rfl) (fun _ _ _ h => h) hs1r ?_ ?_; rotate_left; (focus (intro wq hSw; have hrd : ∀ b o, b < v1.heap.size → wq.cell? ⟨b, o, none⟩ = v1.cell? ⟨b, o, none⟩ := (fun b o h => hSw.cell (p := ⟨b, o, none⟩) h); go_simp; try with_reducible rfl; done)); try simp only [Act.put, List.setIfInBounds_toArray, List.set_cons_zero, List.set_cons_succ])
    (refine held_takeA 2 (by rfl) ?_ (by kernel_rfl) (fun _ _ _ h => h) hs1r ?_ ?_; rotate_left; (focus (intro wq hSw; have hrd : ∀ b o, b < v1.heap.size → wq.cell? ⟨b, o, none⟩ = v1.cell? ⟨b, o, none⟩ := (fun b o h => hSw.cell (p := ⟨b, o, none⟩) h); go_simp; try with_reducible rfl; done)); try simp only [Act.put, List.setIfInBounds_toArray, List.set_cons_zero, List.set_cons_succ])
    (refine held_takeA 3 (by rfl) ?_ (by kernel_rfl) (fun _ _ _ h => h) hs1r ?_ ?_; rotate_left; (focus (intro wq hSw; have hrd : ∀ b o, b < v1.heap.size → wq.cell? ⟨b, o, none⟩ = v1.cell? ⟨b, o, none⟩ := (fun b o h => hSw.cell (p := ⟨b, o, none⟩) h); go_simp; try with_reducible rfl; done)); try simp only [Act.put, List.setIfInBounds_toArray, List.set_cons_zero, List.set_cons_succ])
    (refine held_takeA 5 (by rfl) ?_ (by kernel_rfl) (fun _ _ _ h => h) hs1r ?_ ?_; rotate_left; (focus (intro wq hSw; have hrd : ∀ b o, b < v1.heap.size → wq.cell? ⟨b, o, none⟩ = v1.cell? ⟨b, o, none⟩ := (fun b o h => hSw.cell (p := ⟨b, o, none⟩) h); go_simp; try with_reducible rfl; done)); try simp only [Act.put, List.setIfInBounds_toArray, List.set_cons_zero, List.set_cons_succ])
    (refine held_takeA 6 (by rfl) ?_ (by kernel_rfl) (fun _ _ _ h => h) hs1r ?_ ?_; rotate_left; (focus (intro wq hSw; have hrd : ∀ b o, b < v1.heap.size → wq.cell? ⟨b, o, none⟩ = v1.cell? ⟨b, o, none⟩ := (fun b o h => hSw.cell (p := ⟨b, o, none⟩) h); go_simp; try with_reducible rfl; done)); try simp only [Act.put, List.setIfInBounds_toArray, List.set_cons_zero, List.set_cons_succ])
    (refine held_takeA 7 (by rfl) ?_ (by kernel_rfl) (fun _ _ _ h => h) hs1r ?_ ?_; rotate_left; (focus (intro wq hSw; have hrd : ∀ b o, b < v1.heap.size → wq.cell? ⟨b, o, none⟩ = v1.cell? ⟨b, o, none⟩ := (fun b o h => hSw.cell (p := ⟨b, o, none⟩) h); go_simp; try with_reducible rfl; done)); try simp only [Act.put, List.setIfInBounds_toArray, List.set_cons_zero, List.set_cons_succ])
    refine held_callA 4 (by rfl) (by kernel_rfl) (by rfl) (fun KQ hKQ => ?_)
    go_simp
    refine (refPutZ v1.drew A x1.length cp x1 hby (by omega) (c.id) 4 (by omega) _ (by first | rfl | omega)).mono ?_
    rintro e v2 ⟨v, rfl, hob, hb⟩
    replace hb : Below v1.heap.size v1 v2 := (Below.refl _ _).drew.trans hb
    replace hob := ownB_less hob hBn
    replace hD := hD.trans (hb.mono hBn)
    replace hBn := Nat.le_trans hBn hb.size
    refine hKQ.out _ _ (hs1r.trans (show Below v1.drew.heap.size v1.drew v2 from ⟨hb.os, hb.tape, hb.output, hb.size, hb.block⟩)) (held_mono (S' := fun w' => Below v2.heap.size v2 w') (fun w' h => (hs1r.trans (show Below v1.drew.heap.size v1.drew v2 from ⟨hb.os, hb.tape, hb.output, hb.size, hb.block⟩)).trans (h.mono (hs1r.trans (show Below v1.drew.heap.size v1.drew v2 from ⟨hb.os, hb.tape, hb.output, hb.size, hb.block⟩)).size)) _ _ _ _ ?_)
    clear hKQ KQ
    have hs2r : Below v2.heap.size v2 v2 := Below.refl _ _
    try simp only [Act.put, List.setIfInBounds_toArray, List.set_cons_zero, List.set_cons_succ]
    clear hb hby
    obtain ⟨x2, hx2⟩ : ∃ x, x = x1 ++ (bz (c.id) 4) := ⟨_, rfl⟩
    have hz2 : x2.length = x1.length + 4 := by rw [hx2, List.length_append]; simp [bz_len]
    rw [← hx2, ← hz2] at hob
    have hy2 : x2.length ≤ 6 := by omega
    replace hx2 := Lib.hid hx2
    clear hz2
    obtain ⟨A, cp, rfl, -, -, hby, -⟩ := hob.any2
    refine held_callA 8 (by rfl) (by kernel_rfl) (by rfl) (fun KQ hKQ => ?_)
    go_simp
    refine (refPutZ v2 A x2.length cp x2 hby (by omega) (c.own) 4 (by omega) _ (by first | rfl | omega)).mono ?_
    rintro e v3 ⟨v, rfl, hob, hb⟩
    replace hob := ownB_less hob hBn
    replace hD := hD.trans (hb.mono hBn)
    replace hBn := Nat.le_trans hBn hb.size
    refine hKQ.out _ _ (hs2r.trans hb) (held_mono (S' := fun w' => Below v3.heap.size v3 w') (fun w' h => (hs2r.trans hb).trans (h.mono (hs2r.trans hb).size)) _ _ _ _ ?_)
    clear hKQ KQ
    have hs3r : Below v3.heap.size v3 v3 := Below.refl _ _
    try simp only [Act.put, List.setIfInBounds_toArray, List.set_cons_zero, List.set_cons_succ]
    (refine held_takeA 9 (by rfl) ?_ (by kernel_rfl) (fun _ _ _ h => h) hs3r ?_ ?_; rotate_left; (focus (intro wq hSw; have hrd : ∀ b o, b < v3.heap.size → wq.cell? ⟨b, o, none⟩ = v3.cell? ⟨b, o, none⟩ := (fun b o h => hSw.cell (p := ⟨b, o, none⟩) h); go_simp; try with_reducible rfl; done)); try simp only [Act.put, List.setIfInBounds_toArray, List.set_cons_zero, List.set_cons_succ])
    clear hb hby
    obtain ⟨x3, hx3⟩ : ∃ x, x = x2 ++ (bz (c.own) 4) := ⟨_, rfl⟩
    have hz3 : x3.length = x2.length + 4 := by rw [hx3, List.length_append]; simp [bz_len]
    rw [← hx3, ← hz3] at hob
    have hy3 : x3.length ≤ 10 := by omega
    replace hx3 := Lib.hid hx3
    clear hz3
    refine wpAnyH_done (by kernel_rfl) ?_ _
    try refine NoPanic.normal ?_
    clear q1 q2 ql 
    have q3 := ek.out 3 (.slice A3 c.pn c.pc) (by rw [hA3.out]; rfl) hD
    have ql : w.heap.size < v3.heap.size := by omega
    have hoa := hob.alloc (.cells #[.int .u8 (((c.pn : Int)) % 256)] 5)
    have hxa := one_byteZ v3 ((c.pn : Int))
    have hna : B ≤ (v3.alloc (.cells #[.int .u8 (((c.pn : Int)) % 256)] 5)).heap.size := by rw [World.size_alloc]; omega
    go_upto_region 7 with (at_builtin; refine wpList_app _ rfl (.tmp 40) (.tmp 45) rfl B _ x3.length x3 rfl hoa _ _ 1 1 _ rfl hxa (by omega) hna ?_; intro v v4 hob1 hg1 hd1)
    have hb := hoa.below_app hg1 hna
    have hba := (hD.alloc hBn (.cells #[.int .u8 (((c.pn : Int)) % 256)] 5))
    clear hd1 hob hg1 hoa hxa
    have hob := hob1
    replace hD := hba.trans hb
    replace hBn := Nat.le_trans hna hb.size
    clear hob1 hb hba hna q3 ql 
    obtain ⟨x4, hx4⟩ : ∃ x, x = x3 ++ (bz ((c.pn : Int)) 1) := ⟨_, rfl⟩
    have hz4 : x4.length = x3.length + 1 := by rw [hx4, List.length_append]; simp [bz_len]
    rw [← hx4, ← hz4] at hob
    have hy4 : x4.length ≤ 11 := by omega
    replace hx4 := Lib.hid hx4
    clear hz4
    have q3 := ek.out 3 (.slice A3 c.pn c.pc) (by rw [hA3.out]; rfl) hD
    have ql : w.heap.size < v4.heap.size := by omega
    go_upto_region 8 with (fail)
    clear q3 ql 
    go_loopw [5, 50] (fun bv i wr => ∃ (v : Value) (k : Nat), v = bv ∧ k ≤ c.pn ∧ i = .int .i64 (k : Int) ∧ OwnB wr B v (x4 ++ (c.P.take k).flatMap peerY).length (x4 ++ (c.P.take k).flatMap peerY) ∧ Below B w3 wr ∧ B ≤ wr.heap.size) (fun _ i _ => c.pn - (intOf i).toNat)
    case atStart => exact ⟨_, 0, rfl, Nat.zero_le _, rfl, by simpa using hob, hD, hBn⟩
    case round =>
    clear hob hD hBn
    obtain ⟨v, k, rfl, hk, rfl, hob, hD, hBn⟩ := hrel
    by_cases hlt : k < c.pn
    · have hki : (k : Int) < c.pn := by omega
      have hk0 : (0 : Int) ≤ k := by omega
      have hk300 : (k : Int) ≤ 300 := by omega
      obtain ⟨b, off, p, e1, hb, hp, hokp, r0, r1, r2, r3, r4, r5, r6⟩ := peer_cells (hS3.below hD fun _ q => q) hlt
      subst e1
      have hstp := Lib.hid (flat_next (f := peerY) hp)
      have hle := peers_le hCw.out hs k
      obtain ⟨x5, hx5⟩ : ∃ x, x = x4 ++ (c.P.take k).flatMap peerY := ⟨_, rfl⟩
      rw [← hx5] at hob
      have hy5 : x5.length ≤ 5111 := by rw [hx5, List.length_append]; omega
      replace hx5 := Lib.hid hx5
      have hbx := (Below.refl wr.heap.size wr).alloc (Nat.le_refl _) (.cells #[.int .i64 p.as_, .int .i64 p.hold, .int .i64 p.retry, .int .i64 p.gap, .int .i64 p.med, .int .i64 p.prep, .int .i64 p.back] 80)
      have h5p := Blk.new wr 80 #[.int .i64 p.as_, .int .i64 p.hold, .int .i64 p.retry, .int .i64 p.gap, .int .i64 p.med, .int .i64 p.prep, .int .i64 p.back]
      have hlb : b < wr.heap.size := Nat.lt_of_lt_of_le hb hBn
      go_upto_region 10 with (fail)
      generalize wr.alloc (.cells #[.int .i64 p.as_, .int .i64 p.hold, .int .i64 p.retry, .int .i64 p.gap, .int .i64 p.med, .int .i64 p.prep, .int .i64 p.back] 80) = w5p at *
      replace hob := hob.below hbx
      replace hD := hD.trans (hbx.mono hBn)
      replace hBn := Nat.le_trans hBn hbx.size
      clear hbx hb hlb r0 r1 r2 r3 r4 r5 r6
      generalize wr.heap.size = ap at *
      have q0 := h5p.cellv 0 (v := .int .i64 p.as_) rfl
      have q1 := h5p.cellv 1 (v := .int .i64 p.hold) rfl
      have q2 := h5p.cellv 2 (v := .int .i64 p.retry) rfl
      have q3 := h5p.cellv 3 (v := .int .i64 p.gap) rfl
      have ql := h5p.lt
      have f0 := ix4_0
      have f1 := ix4_1
      have f2 := ix4_2
      have f3 := ix4_3
      go_wp2_with fail
      refine wp_loop_rounds 5 ?_
      change Code.rounds _ _ _ _ _ w5p
      rw [rounds_succ]
      clear   q0 q1 q2 q3 ql
      obtain ⟨A, cp, rfl, -, -, hby, -⟩ := hob.any2
      go_wp2_with fail
      refine (refPutZ w5p A x5.length cp x5 hby (by omega) (p.as_) 2 (by omega) _ ((by first | rfl | omega))).mono ?_
      rintro e v6 ⟨v, rfl, hob, hb⟩
      replace hob := ownB_less hob hBn
      replace hD := hD.trans (hb.mono hBn)
      replace hBn := Nat.le_trans hBn hb.size
      replace h5p := h5p.below hb h5p.lt
      clear hb hby   
      obtain ⟨x6, hx6⟩ : ∃ x, x = x5 ++ (bz (p.as_) 2) := ⟨_, rfl⟩
      have hz6 : x6.length = x5.length + 2 := by rw [hx6, List.length_append]; simp [bz_len]
      rw [← hx6, ← hz6] at hob
      have hy6 : x6.length ≤ 5113 := by omega
      replace hx6 := Lib.hid hx6
      clear hz6
      go_wp2_with fail
      rw [rounds_succ]
      obtain ⟨A, cp, rfl, -, -, hby, -⟩ := hob.any2
      go_wp2_with fail
      refine (refPutZ v6 A x6.length cp x6 hby (by omega) (p.hold) 2 (by omega) _ ((by first | rfl | omega))).mono ?_
      rintro e v7 ⟨v, rfl, hob, hb⟩
      replace hob := ownB_less hob hBn
      replace hD := hD.trans (hb.mono hBn)
      replace hBn := Nat.le_trans hBn hb.size
      replace h5p := h5p.below hb h5p.lt
      clear hb hby   
      obtain ⟨x7, hx7⟩ : ∃ x, x = x6 ++ (bz (p.hold) 2) := ⟨_, rfl⟩
      have hz7 : x7.length = x6.length + 2 := by rw [hx7, List.length_append]; simp [bz_len]
      rw [← hx7, ← hz7] at hob
      have hy7 : x7.length ≤ 5115 := by omega
      replace hx7 := Lib.hid hx7
      clear hz7
      go_wp2_with fail
      rw [rounds_succ]
      obtain ⟨A, cp, rfl, -, -, hby, -⟩ := hob.any2
      go_wp2_with fail
      refine (refPutZ v7 A x7.length cp x7 hby (by omega) (p.retry) 2 (by omega) _ ((by first | rfl | omega))).mono ?_
      rintro e v8 ⟨v, rfl, hob, hb⟩
      replace hob := ownB_less hob hBn
      replace hD := hD.trans (hb.mono hBn)
      replace hBn := Nat.le_trans hBn hb.size
      replace h5p := h5p.below hb h5p.lt
      clear hb hby   
      obtain ⟨x8, hx8⟩ : ∃ x, x = x7 ++ (bz (p.retry) 2) := ⟨_, rfl⟩
      have hz8 : x8.length = x7.length + 2 := by rw [hx8, List.length_append]; simp [bz_len]
      rw [← hx8, ← hz8] at hob
      have hy8 : x8.length ≤ 5117 := by omega
      replace hx8 := Lib.hid hx8
      clear hz8
      go_wp2_with fail
      rw [rounds_succ]
      obtain ⟨A, cp, rfl, -, -, hby, -⟩ := hob.any2
      go_wp2_with fail
      refine (refPutZ v8 A x8.length cp x8 hby (by omega) (p.gap) 2 (by omega) _ ((by first | rfl | omega))).mono ?_
      rintro e v9 ⟨v, rfl, hob, hb⟩
      replace hob := ownB_less hob hBn
      replace hD := hD.trans (hb.mono hBn)
      replace hBn := Nat.le_trans hBn hb.size
      replace h5p := h5p.below hb h5p.lt
      clear hb hby   
      obtain ⟨x9, hx9⟩ : ∃ x, x = x8 ++ (bz (p.gap) 2) := ⟨_, rfl⟩
      have hz9 : x9.length = x8.length + 2 := by rw [hx9, List.length_append]; simp [bz_len]
      rw [← hx9, ← hz9] at hob
      have hy9 : x9.length ≤ 5119 := by omega
      replace hx9 := Lib.hid hx9
      clear hz9
      go_wp2_with fail
      rw [rounds_succ]
      clear f0 f1 f2 f3
      go_upto_region 15 with (fail)
      go_cut [5] (fun s5 wx => CutR w3 B (x9 ++ bz (p.med) 4 ++ bz (p.prep) 1) ap 80 #[.int .i64 p.as_, .int .i64 p.hold, .int .i64 p.retry, .int .i64 p.gap, .int .i64 p.med, .int .i64 p.prep, .int .i64 p.back] s5 wx)
      case first =>
        -- region 15: 0 1 2 3 4C 5 6 7 8M 9M 10
        try refine wp_region_noPanic ?_
        have hs4r : (fun w' => Blk w' ap 80 #[.int .i64 p.as_, .int .i64 p.hold, .int .i64 p.retry, .int .i64 p.gap, .int .i64 p.med, .int .i64 p.prep, .int .i64 p.back]) v9.drew := h5p
        refine wp_region_held_drew (S := fun w' => Blk w' ap 80 #[.int .i64 p.as_, .int .i64 p.hold, .int .i64 p.retry, .int .i64 p.gap, .int .i64 p.med, .int .i64 p.prep, .int .i64 p.back]) (by kernel_rfl) hs4r (fun _ => ?_)
        (refine held_takeA 0 (by rfl) ?_ (by kernel_rfl) (fun _ _ _ h => h) hs4r ?_ ?_; rotate_left; (focus (intro wq hSw; have hrd := hSw; have ql := Blk.lt hSw; have q4 := Blk.cellv hSw 4 (v := .int .i64 p.med) rfl; have q5 := Blk.cellv hSw 5 (v := .int .i64 p.prep) rfl; go_simp; try with_reducible rfl; done)); try simp only [Act.put, List.setIfInBounds_toArray, List.set_cons_zero, List.set_cons_succ])
        (refine held_takeA 1 (by rfl) ?_ (by kernel_rfl) (fun _ _ _ h => h) hs4r ?_ ?_; rotate_left; (focus (intro wq hSw; have hrd := hSw; have ql := Blk.lt hSw; have q4 := Blk.cellv hSw 4 (v := .int .i64 p.med) rfl; have q5 := Blk.cellv hSw 5 (v := .int .i64 p.prep) rfl; go_simp; try with_reducible rfl; done)); try simp only [Act.put, List.setIfInBounds_toArray, List.set_cons_zero, List.set_cons_succ])
        (refine held_takeA 2 (by rfl) ?_ (by kernel_rfl) (fun _ _ _ h => h) hs4r ?_ ?_; rotate_left; (focus (intro wq hSw; have hrd := hSw; have ql := Blk.lt hSw; have q4 := Blk.cellv hSw 4 (v := .int .i64 p.med) rfl; have q5 := Blk.cellv hSw 5 (v := .int .i64 p.prep) rfl; go_simp; try with_reducible rfl; done)); try simp only [Act.put, List.setIfInBounds_toArray, List.set_cons_zero, List.set_cons_succ])
        (refine held_takeA 3 (by rfl) ?_ (by kernel_rfl) (fun _ _ _ h => h) hs4r ?_ ?_; rotate_left; (focus (intro wq hSw; have hrd := hSw; have ql := Blk.lt hSw; have q4 := Blk.cellv hSw 4 (v := .int .i64 p.med) rfl; have q5 := Blk.cellv hSw 5 (v := .int .i64 p.prep) rfl; go_simp; try with_reducible rfl; done)); try simp only [Act.put, List.setIfInBounds_toArray, List.set_cons_zero, List.set_cons_succ])
        (refine held_takeA 5 (by rfl) ?_ (by kernel_rfl) (fun _ _ _ h => h) hs4r ?_ ?_; rotate_left; (focus (intro wq hSw; have hrd := hSw; have ql := Blk.lt hSw; have q4 := Blk.cellv hSw 4 (v := .int .i64 p.med) rfl; have q5 := Blk.cellv hSw 5 (v := .int .i64 p.prep) rfl; go_simp; try with_reducible rfl; done)); try simp only [Act.put, List.setIfInBounds_toArray, List.set_cons_zero, List.set_cons_succ])
        (refine held_takeA 6 (by rfl) ?_ (by kernel_rfl) (fun _ _ _ h => h) hs4r ?_ ?_; rotate_left; (focus (intro wq hSw; have hrd := hSw; have ql := Blk.lt hSw; have q4 := Blk.cellv hSw 4 (v := .int .i64 p.med) rfl; have q5 := Blk.cellv hSw 5 (v := .int .i64 p.prep) rfl; go_simp; try with_reducible rfl; done)); try simp only [Act.put, List.setIfInBounds_toArray, List.set_cons_zero, List.set_cons_succ])
        (refine held_takeA 7 (by rfl) ?_ (by kernel_rfl) (fun _ _ _ h => h) hs4r ?_ ?_; rotate_left; (focus (intro wq hSw; have hrd := hSw; have ql := Blk.lt hSw; have q4 := Blk.cellv hSw 4 (v := .int .i64 p.med) rfl; have q5 := Blk.cellv hSw 5 (v := .int .i64 p.prep) rfl; go_simp; try with_reducible rfl; done)); try simp only [Act.put, List.setIfInBounds_toArray, List.set_cons_zero, List.set_cons_succ])
        refine held_two 4 8 (by rfl) (by rfl) (by kernel_rfl) (by rfl) (by rfl) (fun KQ hKQ => ?_) (fun KQ hKQ => ?_)
        · skip
          go_simp
          obtain ⟨A, cp, rfl, -, -, hby, -⟩ := hob.any2
          refine (refPutZ v9.drew A _ cp (x9) hby (by first | omega | (simp [bz_len]; omega)) (p.med) 4 (by omega) _ (by first | rfl | omega)).mono ?_
          rintro e y15_1 ⟨v, rfl, hob, hb⟩
          replace hb : Below v9.heap.size v9 y15_1 := (Below.refl _ _).drew.trans hb
          replace hob := ownB_less hob hBn
          replace hD := hD.trans (hb.mono hBn)
          replace hBn := Nat.le_trans hBn hb.size
          replace h5p := h5p.below hb h5p.lt
          have hs5r := h5p
          refine hKQ.out _ _ hs5r ?_
          clear hKQ KQ
          try simp only [Act.put, List.setIfInBounds_toArray, List.set_cons_zero, List.set_cons_succ]
          clear hb hby
          refine held_callA 8 (by rfl) (by kernel_rfl) (by rfl) (fun KQ hKQ => ?_)
          go_simp
          have hb := (Below.refl y15_1.heap.size y15_1).alloc (Nat.le_refl _) (.cells #[.int .u8 (IntKind.u8.wrap (p.prep))] 5)
          have hm8 : Blk (y15_1.alloc (.cells #[.int .u8 (IntKind.u8.wrap (p.prep))] 5)) y15_1.heap.size 5 #[.int .u8 (IntKind.u8.wrap (p.prep))] := Blk.new y15_1 5 #[.int .u8 (IntKind.u8.wrap (p.prep))]
          have hd9 : (y15_1.alloc (.cells #[.int .u8 (IntKind.u8.wrap (p.prep))] 5)).drew = y15_1.drew.alloc (.cells #[.int .u8 (IntKind.u8.wrap (p.prep))] 5) := rfl
          try rw [hd9]
          clear hd9
          have hn8 : some y15_1.heap.size ≠ Value.ownBlock _ := fun e => Nat.lt_irrefl _ (ownB_lt hob e.symm).2
          obtain ⟨m8, em⟩ : ∃ m, m = y15_1.heap.size := ⟨_, rfl⟩
          rw [← em] at hm8 hn8
          try rw [← em]
          replace em := Lib.hid em
          generalize y15_1.alloc (.cells #[.int .u8 (IntKind.u8.wrap (p.prep))] 5) = y15_2 at *
          replace hob := hob.below hb
          replace hD := hD.trans (hb.mono hBn)
          replace hBn := Nat.le_trans hBn hb.size
          replace h5p := h5p.below hb h5p.lt
          have hs6r := h5p
          refine hKQ.out _ _ hs6r ?_
          clear hKQ KQ
          try simp only [Act.put, List.setIfInBounds_toArray, List.set_cons_zero, List.set_cons_succ]
          clear hb
          refine held_callA 9 (by rfl) (by kernel_rfl) (by rfl) (fun KQ hKQ => ?_)
          refine wp_app _ (.tmp 75) (.tmp 79) (by rfl) B _ _ (x9 ++ bz (p.med) 4) (by rfl) hob _ _ 1 1 _ (by rfl) (blk_byt1 hm8) (by first | omega | (simp [bz_len]; omega)) hBn ?_
          intro v y15_3 hob1 hg1 hd1
          have hb := hob.below_app hg1 hBn
          replace h5p := h5p.grown hg1 (ownB_ne hob h5p (by decide))
          clear hob hg1 hd1
          have hob := hob1
          clear hob1
          replace hD := hD.trans hb
          replace hBn := Nat.le_trans hBn hb.size
          have hs7r := h5p
          refine hKQ.out _ _ hs7r ?_
          clear hKQ KQ
          try simp only [Act.put, List.setIfInBounds_toArray, List.set_cons_zero, List.set_cons_succ]
          (refine held_takeA 10 (by rfl) ?_ (by kernel_rfl) (fun _ _ _ h => h) hs7r ?_ ?_; rotate_left; (focus (intro wq hSw; have hrd := hSw; have ql := Blk.lt hSw; have q4 := Blk.cellv hSw 4 (v := .int .i64 p.med) rfl; have q5 := Blk.cellv hSw 5 (v := .int .i64 p.prep) rfl; go_simp; try with_reducible rfl; done)); try simp only [Act.put, List.setIfInBounds_toArray, List.set_cons_zero, List.set_cons_succ])
          clear hb
          refine wpAnyH_done (by kernel_rfl) ?_ _
          try refine NoPanic.normal ?_
          go_wp2_with fail
          go_meet
          have hll : (x9 ++ bz (p.med) 4 ++ bz (p.prep) 1).length = x9.length + 5 := by simp [bz_len]
          exact ⟨by rw [hll]; exact hob, hD, h5p, hBn⟩
        · skip
          go_simp
          have hb := (Below.refl v9.drew.heap.size v9.drew).alloc (Nat.le_refl _) (.cells #[.int .u8 (IntKind.u8.wrap (p.prep))] 5)
          have hm8 : Blk (v9.drew.alloc (.cells #[.int .u8 (IntKind.u8.wrap (p.prep))] 5)) v9.heap.size 5 #[.int .u8 (IntKind.u8.wrap (p.prep))] := Blk.new v9.drew 5 #[.int .u8 (IntKind.u8.wrap (p.prep))]
          have hd9 : (v9.alloc (.cells #[.int .u8 (IntKind.u8.wrap (p.prep))] 5)).drew = v9.drew.alloc (.cells #[.int .u8 (IntKind.u8.wrap (p.prep))] 5) := rfl
          try rw [hd9]
          clear hd9
          have hn8 : some v9.heap.size ≠ Value.ownBlock _ := fun e => Nat.lt_irrefl _ (ownB_lt hob e.symm).2
          obtain ⟨m8, em⟩ : ∃ m, m = v9.heap.size := ⟨_, rfl⟩
          rw [← em] at hm8 hn8
          try rw [← em]
          replace em := Lib.hid em
          generalize v9.drew.alloc (.cells #[.int .u8 (IntKind.u8.wrap (p.prep))] 5) = y15_4 at *
          replace hb : Below v9.heap.size v9 y15_4 := (Below.refl _ _).drew.trans hb
          replace hob := hob.below hb
          replace hD := hD.trans (hb.mono hBn)
          replace hBn := Nat.le_trans hBn hb.size
          replace h5p := h5p.below hb h5p.lt
          have hs8r := h5p
          refine hKQ.out _ _ hs8r ?_
          clear hKQ KQ
          try simp only [Act.put, List.setIfInBounds_toArray, List.set_cons_zero, List.set_cons_succ]
          clear hb
          refine held_callA 4 (by rfl) (by kernel_rfl) (by rfl) (fun KQ hKQ => ?_)
          go_simp
          obtain ⟨A, cp, rfl, -, -, hby, -⟩ := hob.any2
          refine (refPutZ y15_4 A _ cp (x9) hby (by first | omega | (simp [bz_len]; omega)) (p.med) 4 (by omega) _ (by first | rfl | omega)).mono ?_
          rintro e y15_5 ⟨v, rfl, hob, hb⟩
          have hn8 : some m8 ≠ v.ownBlock := fun e => by have h1 := hm8.lt; have h2 := (ownB_lt hob e.symm).1; have h3 : y15_4.heap.size ≤ m8 := h2; omega
          replace hm8 := hm8.below hb hm8.lt
          replace hob := ownB_less hob hBn
          replace hD := hD.trans (hb.mono hBn)
          replace hBn := Nat.le_trans hBn hb.size
          replace h5p := h5p.below hb h5p.lt
          have hs9r := h5p
          refine hKQ.out _ _ hs9r ?_
          clear hKQ KQ
          try simp only [Act.put, List.setIfInBounds_toArray, List.set_cons_zero, List.set_cons_succ]
          clear hb hby
          refine held_callA 9 (by rfl) (by kernel_rfl) (by rfl) (fun KQ hKQ => ?_)
          refine wp_app _ (.tmp 75) (.tmp 79) (by rfl) B _ _ (x9 ++ bz (p.med) 4) (by rfl) hob _ _ 1 1 _ (by rfl) (blk_byt1 hm8) (by first | omega | (simp [bz_len]; omega)) hBn ?_
          intro v y15_6 hob1 hg1 hd1
          have hb := hob.below_app hg1 hBn
          replace h5p := h5p.grown hg1 (ownB_ne hob h5p (by decide))
          clear hob hg1 hd1
          have hob := hob1
          clear hob1
          replace hD := hD.trans hb
          replace hBn := Nat.le_trans hBn hb.size
          have hs10r := h5p
          refine hKQ.out _ _ hs10r ?_
          clear hKQ KQ
          try simp only [Act.put, List.setIfInBounds_toArray, List.set_cons_zero, List.set_cons_succ]
          (refine held_takeA 10 (by rfl) ?_ (by kernel_rfl) (fun _ _ _ h => h) hs10r ?_ ?_; rotate_left; (focus (intro wq hSw; have hrd := hSw; have ql := Blk.lt hSw; have q4 := Blk.cellv hSw 4 (v := .int .i64 p.med) rfl; have q5 := Blk.cellv hSw 5 (v := .int .i64 p.prep) rfl; go_simp; try with_reducible rfl; done)); try simp only [Act.put, List.setIfInBounds_toArray, List.set_cons_zero, List.set_cons_succ])
          clear hb
          refine wpAnyH_done (by kernel_rfl) ?_ _
          try refine NoPanic.normal ?_
          go_wp2_with fail
          go_meet
          have hll : (x9 ++ bz (p.med) 4 ++ bz (p.prep) 1).length = x9.length + 5 := by simp [bz_len]
          exact ⟨by rw [hll]; exact hob, hD, h5p, hBn⟩
      clear hob hD hBn h5p
      obtain ⟨hob, hD, h5p, hBn⟩ := hcut
      obtain ⟨x10, hx10⟩ : ∃ x, x = x9 ++ bz (p.med) 4 ++ bz (p.prep) 1 := ⟨_, rfl⟩
      rw [← hx10] at hob
      have hy10 : x10.length ≤ 5124 := by rw [hx10]; simp [bz_len]; omega
      replace hx10 := Lib.hid hx10
      generalize wc = z10 at *
      have q6 := h5p.cellv 6 (v := .int .i64 p.back) rfl
      have ql := h5p.lt
      obtain ⟨A, cp, rfl, -, -, hby, -⟩ := hob.any2
      go_wp2_with fail
      refine (refPutZ z10 A x10.length cp x10 hby (by omega) (p.back) 4 (by omega) _ ((by first | rfl | omega))).mono ?_
      rintro e v11 ⟨v, rfl, hob, hb⟩
      replace hob := ownB_less hob hBn
      replace hD := hD.trans (hb.mono hBn)
      replace hBn := Nat.le_trans hBn hb.size
      replace h5p := h5p.below hb h5p.lt
      clear hb hby   q6 ql
      obtain ⟨x11, hx11⟩ : ∃ x, x = x10 ++ (bz (p.back) 4) := ⟨_, rfl⟩
      have hz11 : x11.length = x10.length + 4 := by rw [hx11, List.length_append]; simp [bz_len]
      rw [← hx11, ← hz11] at hob
      have hy11 : x11.length ≤ 5128 := by omega
      replace hx11 := Lib.hid hx11
      clear hz11
      have hfin : x11 = x4 ++ (c.P.take (k + 1)).flatMap peerY := by
        rw [hstp.out, ← List.append_assoc, ← hx5.out]
        rw [hx11.out, hx10.out, hx9.out, hx8.out, hx7.out, hx6.out]; simp [peerY]
      rw [hfin] at hob
      go_wp2_with fail
      exact ⟨⟨_, k + 1, rfl, by omega, by go_num, hob, hD, hBn⟩, by simp [intOf]; omega⟩
    have hkn : k = c.pn := by omega
    subst hkn
    rw [List.take_of_length_le (by rw [hP1.out]; exact Nat.le_refl _)] at hob
    generalize wr = u5 at *
    have hle := peers_le hCw.out hs c.pn
    rw [List.take_of_length_le (by rw [hP1.out]; exact Nat.le_refl _)] at hle
    obtain ⟨x12, hx12⟩ : ∃ x, x = x4 ++ c.P.flatMap peerY := ⟨_, rfl⟩
    rw [← hx12] at hob
    have hy12 : x12.length ≤ 5111 := by rw [hx12, List.length_append]; omega
    replace hx12 := Lib.hid hx12
    clear hle
    replace hx12 := Lib.hid (show x12 = headY c ++ c.P.flatMap peerY by
      rw [hx12.out, hx4.out, hx3.out, hx2.out, hx1.out, hx0.out, ← hP1.out]
      simp [headY])
    clear hx4 hx3 hx2 hx1 hx0
    have q4 := ek.out 4 (.slice A4 c.vn c.vc) (by rw [hA4.out]; rfl) hD
    have ql : w.heap.size < u5.heap.size := by omega
    have hoa := hob.alloc (.cells #[.int .u8 (((c.vn : Int)) % 256)] 5)
    have hxa := one_byteZ u5 ((c.vn : Int))
    have hna : B ≤ (u5.alloc (.cells #[.int .u8 (((c.vn : Int)) % 256)] 5)).heap.size := by rw [World.size_alloc]; omega
    go_upto_region 19 with (at_builtin; refine wpList_app _ rfl (.tmp 87) (.tmp 92) rfl B _ x12.length x12 rfl hoa _ _ 1 1 _ rfl hxa (by omega) hna ?_; intro v v13 hob1 hg1 hd1)
    have hb := hoa.below_app hg1 hna
    have hba := (hD.alloc hBn (.cells #[.int .u8 (((c.vn : Int)) % 256)] 5))
    clear hd1 hob hg1 hoa hxa
    have hob := hob1
    replace hD := hba.trans hb
    replace hBn := Nat.le_trans hna hb.size
    clear hob1 hb hba hna q4 ql 
    obtain ⟨x13, hx13⟩ : ∃ x, x = x12 ++ (bz ((c.vn : Int)) 1) := ⟨_, rfl⟩
    have hz13 : x13.length = x12.length + 1 := by rw [hx13, List.length_append]; simp [bz_len]
    rw [← hx13, ← hz13] at hob
    have hy13 : x13.length ≤ 5112 := by omega
    replace hx13 := Lib.hid hx13
    clear hz13
    have q4 := ek.out 4 (.slice A4 c.vn c.vc) (by rw [hA4.out]; rfl) hD
    have ql : w.heap.size < v13.heap.size := by omega
    go_upto_region 20 with (fail)
    clear q4 ql 
    go_loopw [5, 97] (fun bv i wr => ∃ (v : Value) (k : Nat), v = bv ∧ k ≤ c.vn ∧ i = .int .i64 (k : Int) ∧ OwnB wr B v (x13 ++ (c.V.take k).flatMap vipY).length (x13 ++ (c.V.take k).flatMap vipY) ∧ Below B w3 wr ∧ B ≤ wr.heap.size) (fun _ i _ => c.vn - (intOf i).toNat)
    case atStart => exact ⟨_, 0, rfl, Nat.zero_le _, rfl, by simpa using hob, hD, hBn⟩
    case round =>
    clear hob hD hBn
    obtain ⟨v, k, rfl, hk, rfl, hob, hD, hBn⟩ := hrel
    by_cases hlt : k < c.vn
    · have hki : (k : Int) < c.vn := by omega
      have hk0 : (0 : Int) ≤ k := by omega
      have hk300 : (k : Int) ≤ 300 := by omega
      obtain ⟨b, off, p, e1, hb, hp, hokp, r0, r1, r2⟩ := vip_cells (hS4.below hD fun _ q => q) hlt
      subst e1
      have hpm := hp
      replace hokp := hS4.2.1 p (List.mem_of_getElem? hp)
      have hstp := Lib.hid (flat_next (f := vipY) hp)
      have hle := vips_le hCw.out hs k
      obtain ⟨x14, hx14⟩ : ∃ x, x = x13 ++ (c.V.take k).flatMap vipY := ⟨_, rfl⟩
      rw [← hx14] at hob
      have hy14 : x14.length ≤ 555000 := by rw [hx14, List.length_append]; omega
      replace hx14 := Lib.hid hx14
      have hbx := (Below.refl wr.heap.size wr).alloc (Nat.le_refl _) (.cells #[.int .u32 p.ad, .int .i64 p.pct, .slice p.A p.n p.c] 81)
      have h5p := Blk.new wr 81 #[.int .u32 p.ad, .int .i64 p.pct, .slice p.A p.n p.c]
      have hlb : b < wr.heap.size := Nat.lt_of_lt_of_le hb hBn
      go_upto_region 22 with (fail)
      generalize wr.alloc (.cells #[.int .u32 p.ad, .int .i64 p.pct, .slice p.A p.n p.c] 81) = w5p at *
      replace hob := hob.below hbx
      replace hD := hD.trans (hbx.mono hBn)
      replace hBn := Nat.le_trans hBn hbx.size
      clear hbx hb hlb r0 r1 r2
      generalize wr.heap.size = ap at *
      have hpu := hokp.1
      unfold IsU at hpu
      go_upto_region 22 with (fail)
      go_cut [5] (fun s5 wx => CutR w3 B (x14 ++ bz (p.ad) 4 ++ (bz (p.pct) 1 ++ bz ((p.n : Int)) 1)) ap 81 #[.int .u32 p.ad, .int .i64 p.pct, .slice p.A p.n p.c] s5 wx)
      case first =>
        -- region 22: 0 1 2 3 4C 5 6 7 8 9 10 11 12M 13M 14
        try refine wp_region_noPanic ?_
        have hs11r : (fun w' => Blk w' ap 81 #[.int .u32 p.ad, .int .i64 p.pct, .slice p.A p.n p.c]) w5p.drew := h5p
        refine wp_region_held_drew (S := fun w' => Blk w' ap 81 #[.int .u32 p.ad, .int .i64 p.pct, .slice p.A p.n p.c]) (by kernel_rfl) hs11r (fun _ => ?_)
        (refine held_takeA 0 (by rfl) ?_ (by kernel_rfl) (fun _ _ _ h => h) hs11r ?_ ?_; rotate_left; (focus (intro wq hSw; have hrd := hSw; have ql := Blk.lt hSw; have q0 := Blk.cellv hSw 0 (v := .int .u32 p.ad) rfl; have q1 := Blk.cellv hSw 1 (v := .int .i64 p.pct) rfl; have q2 := Blk.cellv hSw 2 (v := .slice p.A p.n p.c) rfl; go_simp; try with_reducible rfl; done)); try simp only [Act.put, List.setIfInBounds_toArray, List.set_cons_zero, List.set_cons_succ])
        (refine held_takeA 1 (by rfl) ?_ (by kernel_rfl) (fun _ _ _ h => h) hs11r ?_ ?_; rotate_left; (focus (intro wq hSw; have hrd := hSw; have ql := Blk.lt hSw; have q0 := Blk.cellv hSw 0 (v := .int .u32 p.ad) rfl; have q1 := Blk.cellv hSw 1 (v := .int .i64 p.pct) rfl; have q2 := Blk.cellv hSw 2 (v := .slice p.A p.n p.c) rfl; go_simp; try with_reducible rfl; done)); try simp only [Act.put, List.setIfInBounds_toArray, List.set_cons_zero, List.set_cons_succ])
        (refine held_takeA 2 (by rfl) ?_ (by kernel_rfl) (fun _ _ _ h => h) hs11r ?_ ?_; rotate_left; (focus (intro wq hSw; have hrd := hSw; have ql := Blk.lt hSw; have q0 := Blk.cellv hSw 0 (v := .int .u32 p.ad) rfl; have q1 := Blk.cellv hSw 1 (v := .int .i64 p.pct) rfl; have q2 := Blk.cellv hSw 2 (v := .slice p.A p.n p.c) rfl; go_simp; try with_reducible rfl; done)); try simp only [Act.put, List.setIfInBounds_toArray, List.set_cons_zero, List.set_cons_succ])
        (refine held_takeA 3 (by rfl) ?_ (by kernel_rfl) (fun _ _ _ h => h) hs11r ?_ ?_; rotate_left; (focus (intro wq hSw; have hrd := hSw; have ql := Blk.lt hSw; have q0 := Blk.cellv hSw 0 (v := .int .u32 p.ad) rfl; have q1 := Blk.cellv hSw 1 (v := .int .i64 p.pct) rfl; have q2 := Blk.cellv hSw 2 (v := .slice p.A p.n p.c) rfl; go_simp; try with_reducible rfl; done)); try simp only [Act.put, List.setIfInBounds_toArray, List.set_cons_zero, List.set_cons_succ])
        (refine held_takeA 5 (by rfl) ?_ (by kernel_rfl) (fun _ _ _ h => h) hs11r ?_ ?_; rotate_left; (focus (intro wq hSw; have hrd := hSw; have ql := Blk.lt hSw; have q0 := Blk.cellv hSw 0 (v := .int .u32 p.ad) rfl; have q1 := Blk.cellv hSw 1 (v := .int .i64 p.pct) rfl; have q2 := Blk.cellv hSw 2 (v := .slice p.A p.n p.c) rfl; go_simp; try with_reducible rfl; done)); try simp only [Act.put, List.setIfInBounds_toArray, List.set_cons_zero, List.set_cons_succ])
        (refine held_takeA 6 (by rfl) ?_ (by kernel_rfl) (fun _ _ _ h => h) hs11r ?_ ?_; rotate_left; (focus (intro wq hSw; have hrd := hSw; have ql := Blk.lt hSw; have q0 := Blk.cellv hSw 0 (v := .int .u32 p.ad) rfl; have q1 := Blk.cellv hSw 1 (v := .int .i64 p.pct) rfl; have q2 := Blk.cellv hSw 2 (v := .slice p.A p.n p.c) rfl; go_simp; try with_reducible rfl; done)); try simp only [Act.put, List.setIfInBounds_toArray, List.set_cons_zero, List.set_cons_succ])
        (refine held_takeA 7 (by rfl) ?_ (by kernel_rfl) (fun _ _ _ h => h) hs11r ?_ ?_; rotate_left; (focus (intro wq hSw; have hrd := hSw; have ql := Blk.lt hSw; have q0 := Blk.cellv hSw 0 (v := .int .u32 p.ad) rfl; have q1 := Blk.cellv hSw 1 (v := .int .i64 p.pct) rfl; have q2 := Blk.cellv hSw 2 (v := .slice p.A p.n p.c) rfl; go_simp; try with_reducible rfl; done)); try simp only [Act.put, List.setIfInBounds_toArray, List.set_cons_zero, List.set_cons_succ])
        (refine held_takeA 8 (by rfl) ?_ (by kernel_rfl) (fun _ _ _ h => h) hs11r ?_ ?_; rotate_left; (focus (intro wq hSw; have hrd := hSw; have ql := Blk.lt hSw; have q0 := Blk.cellv hSw 0 (v := .int .u32 p.ad) rfl; have q1 := Blk.cellv hSw 1 (v := .int .i64 p.pct) rfl; have q2 := Blk.cellv hSw 2 (v := .slice p.A p.n p.c) rfl; go_simp; try with_reducible rfl; done)); try simp only [Act.put, List.setIfInBounds_toArray, List.set_cons_zero, List.set_cons_succ])
        (refine held_takeA 9 (by rfl) ?_ (by kernel_rfl) (fun _ _ _ h => h) hs11r ?_ ?_; rotate_left; (focus (intro wq hSw; have hrd := hSw; have ql := Blk.lt hSw; have q0 := Blk.cellv hSw 0 (v := .int .u32 p.ad) rfl; have q1 := Blk.cellv hSw 1 (v := .int .i64 p.pct) rfl; have q2 := Blk.cellv hSw 2 (v := .slice p.A p.n p.c) rfl; go_simp; try with_reducible rfl; done)); try simp only [Act.put, List.setIfInBounds_toArray, List.set_cons_zero, List.set_cons_succ])
        (refine held_takeA 10 (by rfl) ?_ (by kernel_rfl) (fun _ _ _ h => h) hs11r ?_ ?_; rotate_left; (focus (intro wq hSw; have hrd := hSw; have ql := Blk.lt hSw; have q0 := Blk.cellv hSw 0 (v := .int .u32 p.ad) rfl; have q1 := Blk.cellv hSw 1 (v := .int .i64 p.pct) rfl; have q2 := Blk.cellv hSw 2 (v := .slice p.A p.n p.c) rfl; go_simp; try with_reducible rfl; done)); try simp only [Act.put, List.setIfInBounds_toArray, List.set_cons_zero, List.set_cons_succ])
        (refine held_takeA 11 (by rfl) ?_ (by kernel_rfl) (fun _ _ _ h => h) hs11r ?_ ?_; rotate_left; (focus (intro wq hSw; have hrd := hSw; have ql := Blk.lt hSw; have q0 := Blk.cellv hSw 0 (v := .int .u32 p.ad) rfl; have q1 := Blk.cellv hSw 1 (v := .int .i64 p.pct) rfl; have q2 := Blk.cellv hSw 2 (v := .slice p.A p.n p.c) rfl; go_simp; try with_reducible rfl; done)); try simp only [Act.put, List.setIfInBounds_toArray, List.set_cons_zero, List.set_cons_succ])
        refine held_two 4 12 (by rfl) (by rfl) (by kernel_rfl) (by rfl) (by rfl) (fun KQ hKQ => ?_) (fun KQ hKQ => ?_)
        · skip
          go_simp
          obtain ⟨A, cp, rfl, -, -, hby, -⟩ := hob.any2
          refine (refPutZ w5p.drew A _ cp (x14) hby (by first | omega | (simp [bz_len]; omega)) (p.ad) 4 (by omega) _ (by first | rfl | omega)).mono ?_
          rintro e y22_1 ⟨v, rfl, hob, hb⟩
          replace hb : Below w5p.heap.size w5p y22_1 := (Below.refl _ _).drew.trans hb
          replace hob := ownB_less hob hBn
          replace hD := hD.trans (hb.mono hBn)
          replace hBn := Nat.le_trans hBn hb.size
          replace h5p := h5p.below hb h5p.lt
          have hs12r := h5p
          refine hKQ.out _ _ hs12r ?_
          clear hKQ KQ
          try simp only [Act.put, List.setIfInBounds_toArray, List.set_cons_zero, List.set_cons_succ]
          clear hb hby
          refine held_callA 12 (by rfl) (by kernel_rfl) (by rfl) (fun KQ hKQ => ?_)
          go_simp
          have hb := (Below.refl y22_1.heap.size y22_1).alloc (Nat.le_refl _) (.cells #[.int .u8 (IntKind.u8.wrap (p.pct)), .int .u8 (IntKind.u8.wrap ((p.n : Int)))] 5)
          have hm12 : Blk (y22_1.alloc (.cells #[.int .u8 (IntKind.u8.wrap (p.pct)), .int .u8 (IntKind.u8.wrap ((p.n : Int)))] 5)) y22_1.heap.size 5 #[.int .u8 (IntKind.u8.wrap (p.pct)), .int .u8 (IntKind.u8.wrap ((p.n : Int)))] := Blk.new y22_1 5 #[.int .u8 (IntKind.u8.wrap (p.pct)), .int .u8 (IntKind.u8.wrap ((p.n : Int)))]
          have hd9 : (y22_1.alloc (.cells #[.int .u8 (IntKind.u8.wrap (p.pct)), .int .u8 (IntKind.u8.wrap ((p.n : Int)))] 5)).drew = y22_1.drew.alloc (.cells #[.int .u8 (IntKind.u8.wrap (p.pct)), .int .u8 (IntKind.u8.wrap ((p.n : Int)))] 5) := rfl
          try rw [hd9]
          clear hd9
          have hn12 : some y22_1.heap.size ≠ Value.ownBlock _ := fun e => Nat.lt_irrefl _ (ownB_lt hob e.symm).2
          obtain ⟨m12, em⟩ : ∃ m, m = y22_1.heap.size := ⟨_, rfl⟩
          rw [← em] at hm12 hn12
          try rw [← em]
          replace em := Lib.hid em
          generalize y22_1.alloc (.cells #[.int .u8 (IntKind.u8.wrap (p.pct)), .int .u8 (IntKind.u8.wrap ((p.n : Int)))] 5) = y22_2 at *
          replace hob := hob.below hb
          replace hD := hD.trans (hb.mono hBn)
          replace hBn := Nat.le_trans hBn hb.size
          replace h5p := h5p.below hb h5p.lt
          have hs13r := h5p
          refine hKQ.out _ _ hs13r ?_
          clear hKQ KQ
          try simp only [Act.put, List.setIfInBounds_toArray, List.set_cons_zero, List.set_cons_succ]
          clear hb
          refine held_callA 13 (by rfl) (by kernel_rfl) (by rfl) (fun KQ hKQ => ?_)
          refine wp_app _ (.tmp 105) (.tmp 113) (by rfl) B _ _ (x14 ++ bz (p.ad) 4) (by rfl) hob _ _ 2 2 _ (by rfl) (blk_byt2 hm12) (by first | omega | (simp [bz_len]; omega)) hBn ?_
          intro v y22_3 hob1 hg1 hd1
          have hb := hob.below_app hg1 hBn
          replace h5p := h5p.grown hg1 (ownB_ne hob h5p (by decide))
          clear hob hg1 hd1
          have hob := hob1
          clear hob1
          replace hD := hD.trans hb
          replace hBn := Nat.le_trans hBn hb.size
          have hs14r := h5p
          refine hKQ.out _ _ hs14r ?_
          clear hKQ KQ
          try simp only [Act.put, List.setIfInBounds_toArray, List.set_cons_zero, List.set_cons_succ]
          (refine held_takeA 14 (by rfl) ?_ (by kernel_rfl) (fun _ _ _ h => h) hs14r ?_ ?_; rotate_left; (focus (intro wq hSw; have hrd := hSw; have ql := Blk.lt hSw; have q0 := Blk.cellv hSw 0 (v := .int .u32 p.ad) rfl; have q1 := Blk.cellv hSw 1 (v := .int .i64 p.pct) rfl; have q2 := Blk.cellv hSw 2 (v := .slice p.A p.n p.c) rfl; go_simp; try with_reducible rfl; done)); try simp only [Act.put, List.setIfInBounds_toArray, List.set_cons_zero, List.set_cons_succ])
          clear hb
          refine wpAnyH_done (by kernel_rfl) ?_ _
          try refine NoPanic.normal ?_
          go_wp2_with fail
          go_meet
          have hll : (x14 ++ bz (p.ad) 4 ++ (bz (p.pct) 1 ++ bz ((p.n : Int)) 1)).length = x14.length + 6 := by simp [bz_len]
          exact ⟨by rw [hll]; exact hob, hD, h5p, hBn⟩
        · skip
          go_simp
          have hb := (Below.refl w5p.drew.heap.size w5p.drew).alloc (Nat.le_refl _) (.cells #[.int .u8 (IntKind.u8.wrap (p.pct)), .int .u8 (IntKind.u8.wrap ((p.n : Int)))] 5)
          have hm12 : Blk (w5p.drew.alloc (.cells #[.int .u8 (IntKind.u8.wrap (p.pct)), .int .u8 (IntKind.u8.wrap ((p.n : Int)))] 5)) w5p.heap.size 5 #[.int .u8 (IntKind.u8.wrap (p.pct)), .int .u8 (IntKind.u8.wrap ((p.n : Int)))] := Blk.new w5p.drew 5 #[.int .u8 (IntKind.u8.wrap (p.pct)), .int .u8 (IntKind.u8.wrap ((p.n : Int)))]
          have hd9 : (w5p.alloc (.cells #[.int .u8 (IntKind.u8.wrap (p.pct)), .int .u8 (IntKind.u8.wrap ((p.n : Int)))] 5)).drew = w5p.drew.alloc (.cells #[.int .u8 (IntKind.u8.wrap (p.pct)), .int .u8 (IntKind.u8.wrap ((p.n : Int)))] 5) := rfl
          try rw [hd9]
          clear hd9
          have hn12 : some w5p.heap.size ≠ Value.ownBlock _ := fun e => Nat.lt_irrefl _ (ownB_lt hob e.symm).2
          obtain ⟨m12, em⟩ : ∃ m, m = w5p.heap.size := ⟨_, rfl⟩
          rw [← em] at hm12 hn12
          try rw [← em]
          replace em := Lib.hid em
          generalize w5p.drew.alloc (.cells #[.int .u8 (IntKind.u8.wrap (p.pct)), .int .u8 (IntKind.u8.wrap ((p.n : Int)))] 5) = y22_4 at *
          replace hb : Below w5p.heap.size w5p y22_4 := (Below.refl _ _).drew.trans hb
          replace hob := hob.below hb
          replace hD := hD.trans (hb.mono hBn)
          replace hBn := Nat.le_trans hBn hb.size
          replace h5p := h5p.below hb h5p.lt
          have hs15r := h5p
          refine hKQ.out _ _ hs15r ?_
          clear hKQ KQ
          try simp only [Act.put, List.setIfInBounds_toArray, List.set_cons_zero, List.set_cons_succ]
          clear hb
          refine held_callA 4 (by rfl) (by kernel_rfl) (by rfl) (fun KQ hKQ => ?_)
          go_simp
          obtain ⟨A, cp, rfl, -, -, hby, -⟩ := hob.any2
          refine (refPutZ y22_4 A _ cp (x14) hby (by first | omega | (simp [bz_len]; omega)) (p.ad) 4 (by omega) _ (by first | rfl | omega)).mono ?_
          rintro e y22_5 ⟨v, rfl, hob, hb⟩
          have hn12 : some m12 ≠ v.ownBlock := fun e => by have h1 := hm12.lt; have h2 := (ownB_lt hob e.symm).1; have h3 : y22_4.heap.size ≤ m12 := h2; omega
          replace hm12 := hm12.below hb hm12.lt
          replace hob := ownB_less hob hBn
          replace hD := hD.trans (hb.mono hBn)
          replace hBn := Nat.le_trans hBn hb.size
          replace h5p := h5p.below hb h5p.lt
          have hs16r := h5p
          refine hKQ.out _ _ hs16r ?_
          clear hKQ KQ
          try simp only [Act.put, List.setIfInBounds_toArray, List.set_cons_zero, List.set_cons_succ]
          clear hb hby
          refine held_callA 13 (by rfl) (by kernel_rfl) (by rfl) (fun KQ hKQ => ?_)
          refine wp_app _ (.tmp 105) (.tmp 113) (by rfl) B _ _ (x14 ++ bz (p.ad) 4) (by rfl) hob _ _ 2 2 _ (by rfl) (blk_byt2 hm12) (by first | omega | (simp [bz_len]; omega)) hBn ?_
          intro v y22_6 hob1 hg1 hd1
          have hb := hob.below_app hg1 hBn
          replace h5p := h5p.grown hg1 (ownB_ne hob h5p (by decide))
          clear hob hg1 hd1
          have hob := hob1
          clear hob1
          replace hD := hD.trans hb
          replace hBn := Nat.le_trans hBn hb.size
          have hs17r := h5p
          refine hKQ.out _ _ hs17r ?_
          clear hKQ KQ
          try simp only [Act.put, List.setIfInBounds_toArray, List.set_cons_zero, List.set_cons_succ]
          (refine held_takeA 14 (by rfl) ?_ (by kernel_rfl) (fun _ _ _ h => h) hs17r ?_ ?_; rotate_left; (focus (intro wq hSw; have hrd := hSw; have ql := Blk.lt hSw; have q0 := Blk.cellv hSw 0 (v := .int .u32 p.ad) rfl; have q1 := Blk.cellv hSw 1 (v := .int .i64 p.pct) rfl; have q2 := Blk.cellv hSw 2 (v := .slice p.A p.n p.c) rfl; go_simp; try with_reducible rfl; done)); try simp only [Act.put, List.setIfInBounds_toArray, List.set_cons_zero, List.set_cons_succ])
          clear hb
          refine wpAnyH_done (by kernel_rfl) ?_ _
          try refine NoPanic.normal ?_
          go_wp2_with fail
          go_meet
          have hll : (x14 ++ bz (p.ad) 4 ++ (bz (p.pct) 1 ++ bz ((p.n : Int)) 1)).length = x14.length + 6 := by simp [bz_len]
          exact ⟨by rw [hll]; exact hob, hD, h5p, hBn⟩
      clear hob hD hBn h5p
      obtain ⟨hob, hD, h5p, hBn⟩ := hcut
      obtain ⟨x15, hx15⟩ : ∃ x, x = x14 ++ bz (p.ad) 4 ++ (bz (p.pct) 1 ++ bz ((p.n : Int)) 1) := ⟨_, rfl⟩
      rw [← hx15] at hob
      have hy15 : x15.length ≤ 555006 := by rw [hx15]; simp [bz_len]; omega
      replace hx15 := Lib.hid hx15
      generalize wc = z15 at *
      have hbl := (hokp.2.2.2.2.1).symm
      have hSb := hokp.2.2.2.2
      have hnb : p.n ≤ 300 := hs.b p (List.mem_of_getElem? hpm)
      have hbl3 : p.L.length ≤ 300 := by omega
      obtain ⟨A6, hA6⟩ : ∃ A, A = p.A := ⟨_, rfl⟩
      rw [← hA6] at hSb
      have q2 : z15.cell? ⟨ap, 2, none⟩ = some (.slice A6 p.n p.c) := by rw [hA6]; exact h5p.cellv 2 rfl
      replace hA6 := Lib.hid hA6
      replace hbl := Lib.hid hbl
      clear hpu
      have ql := h5p.lt
      go_upto_region 24 with (fail)
      clear  q2 ql
      go_loopw [5, 118] (fun bv i wr => ∃ (v : Value) (j : Nat), v = bv ∧ j ≤ p.n ∧ i = .int .i64 (j : Int) ∧ OwnB wr B v (x15 ++ (p.L.take j).flatMap bndY).length (x15 ++ (p.L.take j).flatMap bndY) ∧ Below B w3 wr ∧ B ≤ wr.heap.size) (fun _ i _ => p.n - (intOf i).toNat)
      case atStart => exact ⟨_, 0, rfl, Nat.zero_le _, rfl, by simpa using hob, hD, hBn⟩
      case round =>
      clear hob hD hBn
      obtain ⟨v, j, rfl, hj, rfl, hob, hD, hBn⟩ := hrel
      by_cases hlt : j < p.n
      · have hki : (j : Int) < p.n := by omega
        have hk0 : (0 : Int) ≤ j := by omega
        have hk300 : (j : Int) ≤ 300 := by omega
        obtain ⟨b, off, q, e1, hb, hp, hokq, r0, r1, r2⟩ := bnd_cells (hSb.below hD fun _ q => q) hlt
        subst e1
        have hstq := Lib.hid (flat_next (f := bndY) hp)
        have hle := bnd_le hbl3 j
        obtain ⟨x16, hx16⟩ : ∃ x, x = x15 ++ (p.L.take j).flatMap bndY := ⟨_, rfl⟩
        rw [← hx16] at hob
        have hy16 : x16.length ≤ 560000 := by rw [hx16, List.length_append]; omega
        replace hx16 := Lib.hid hx16
        have hbx := (Below.refl wr.heap.size wr).alloc (Nat.le_refl _) (.cells #[.int .i64 q.id, .int .u32 q.ad, .int .i64 q.wt] 67)
        have h5q := Blk.new wr 67 #[.int .i64 q.id, .int .u32 q.ad, .int .i64 q.wt]
        have hlb : b < wr.heap.size := Nat.lt_of_lt_of_le hb hBn
        go_upto_region 26 with (fail)
        generalize wr.alloc (.cells #[.int .i64 q.id, .int .u32 q.ad, .int .i64 q.wt] 67) = w5q at *
        replace hob := hob.below hbx
        replace hD := hD.trans (hbx.mono hBn)
        replace hBn := Nat.le_trans hBn hbx.size
        clear hbx hb hlb r0 r1 r2
        generalize wr.heap.size = aq at *
        have hqu := hokq.2.1
        unfold IsU at hqu
        -- region 26: 0 1 2 3 4M 5M 6 7 8 9C 10 11 12 13M 14M 15
        try refine wp_region_noPanic ?_
        have hs18r : (fun w' => Blk w' aq 67 #[.int .i64 q.id, .int .u32 q.ad, .int .i64 q.wt]) w5q.drew := h5q
        refine wp_region_held_drew (S := fun w' => Blk w' aq 67 #[.int .i64 q.id, .int .u32 q.ad, .int .i64 q.wt]) (by kernel_rfl) hs18r (fun _ => ?_)
        (refine held_takeA 0 (by rfl) ?_ (by kernel_rfl) (fun _ _ _ h => h) hs18r ?_ ?_; rotate_left; (focus (intro wq hSw; have hrd := hSw; have ql := Blk.lt hSw; have q0 := Blk.cellv hSw 0 (v := .int .i64 q.id) rfl; have q1 := Blk.cellv hSw 1 (v := .int .u32 q.ad) rfl; have q2 := Blk.cellv hSw 2 (v := .int .i64 q.wt) rfl; go_simp; try with_reducible rfl; done)); try simp only [Act.put, List.setIfInBounds_toArray, List.set_cons_zero, List.set_cons_succ])
        (refine held_takeA 1 (by rfl) ?_ (by kernel_rfl) (fun _ _ _ h => h) hs18r ?_ ?_; rotate_left; (focus (intro wq hSw; have hrd := hSw; have ql := Blk.lt hSw; have q0 := Blk.cellv hSw 0 (v := .int .i64 q.id) rfl; have q1 := Blk.cellv hSw 1 (v := .int .u32 q.ad) rfl; have q2 := Blk.cellv hSw 2 (v := .int .i64 q.wt) rfl; go_simp; try with_reducible rfl; done)); try simp only [Act.put, List.setIfInBounds_toArray, List.set_cons_zero, List.set_cons_succ])
        (refine held_takeA 2 (by rfl) ?_ (by kernel_rfl) (fun _ _ _ h => h) hs18r ?_ ?_; rotate_left; (focus (intro wq hSw; have hrd := hSw; have ql := Blk.lt hSw; have q0 := Blk.cellv hSw 0 (v := .int .i64 q.id) rfl; have q1 := Blk.cellv hSw 1 (v := .int .u32 q.ad) rfl; have q2 := Blk.cellv hSw 2 (v := .int .i64 q.wt) rfl; go_simp; try with_reducible rfl; done)); try simp only [Act.put, List.setIfInBounds_toArray, List.set_cons_zero, List.set_cons_succ])
        (refine held_takeA 3 (by rfl) ?_ (by kernel_rfl) (fun _ _ _ h => h) hs18r ?_ ?_; rotate_left; (focus (intro wq hSw; have hrd := hSw; have ql := Blk.lt hSw; have q0 := Blk.cellv hSw 0 (v := .int .i64 q.id) rfl; have q1 := Blk.cellv hSw 1 (v := .int .u32 q.ad) rfl; have q2 := Blk.cellv hSw 2 (v := .int .i64 q.wt) rfl; go_simp; try with_reducible rfl; done)); try simp only [Act.put, List.setIfInBounds_toArray, List.set_cons_zero, List.set_cons_succ])
        (refine held_takeA 6 (by rfl) ?_ (by kernel_rfl) (fun _ _ _ h => h) hs18r ?_ ?_; rotate_left; (focus (intro wq hSw; have hrd := hSw; have ql := Blk.lt hSw; have q0 := Blk.cellv hSw 0 (v := .int .i64 q.id) rfl; have q1 := Blk.cellv hSw 1 (v := .int .u32 q.ad) rfl; have q2 := Blk.cellv hSw 2 (v := .int .i64 q.wt) rfl; go_simp; try with_reducible rfl; done)); try simp only [Act.put, List.setIfInBounds_toArray, List.set_cons_zero, List.set_cons_succ])
        (refine held_takeA 7 (by rfl) ?_ (by kernel_rfl) (fun _ _ _ h => h) hs18r ?_ ?_; rotate_left; (focus (intro wq hSw; have hrd := hSw; have ql := Blk.lt hSw; have q0 := Blk.cellv hSw 0 (v := .int .i64 q.id) rfl; have q1 := Blk.cellv hSw 1 (v := .int .u32 q.ad) rfl; have q2 := Blk.cellv hSw 2 (v := .int .i64 q.wt) rfl; go_simp; try with_reducible rfl; done)); try simp only [Act.put, List.setIfInBounds_toArray, List.set_cons_zero, List.set_cons_succ])
        (refine held_takeA 8 (by rfl) ?_ (by kernel_rfl) (fun _ _ _ h => h) hs18r ?_ ?_; rotate_left; (focus (intro wq hSw; have hrd := hSw; have ql := Blk.lt hSw; have q0 := Blk.cellv hSw 0 (v := .int .i64 q.id) rfl; have q1 := Blk.cellv hSw 1 (v := .int .u32 q.ad) rfl; have q2 := Blk.cellv hSw 2 (v := .int .i64 q.wt) rfl; go_simp; try with_reducible rfl; done)); try simp only [Act.put, List.setIfInBounds_toArray, List.set_cons_zero, List.set_cons_succ])
        (refine held_takeA 10 (by rfl) ?_ (by kernel_rfl) (fun _ _ _ h => h) hs18r ?_ ?_; rotate_left; (focus (intro wq hSw; have hrd := hSw; have ql := Blk.lt hSw; have q0 := Blk.cellv hSw 0 (v := .int .i64 q.id) rfl; have q1 := Blk.cellv hSw 1 (v := .int .u32 q.ad) rfl; have q2 := Blk.cellv hSw 2 (v := .int .i64 q.wt) rfl; go_simp; try with_reducible rfl; done)); try simp only [Act.put, List.setIfInBounds_toArray, List.set_cons_zero, List.set_cons_succ])
        (refine held_takeA 11 (by rfl) ?_ (by kernel_rfl) (fun _ _ _ h => h) hs18r ?_ ?_; rotate_left; (focus (intro wq hSw; have hrd := hSw; have ql := Blk.lt hSw; have q0 := Blk.cellv hSw 0 (v := .int .i64 q.id) rfl; have q1 := Blk.cellv hSw 1 (v := .int .u32 q.ad) rfl; have q2 := Blk.cellv hSw 2 (v := .int .i64 q.wt) rfl; go_simp; try with_reducible rfl; done)); try simp only [Act.put, List.setIfInBounds_toArray, List.set_cons_zero, List.set_cons_succ])
        (refine held_takeA 12 (by rfl) ?_ (by kernel_rfl) (fun _ _ _ h => h) hs18r ?_ ?_; rotate_left; (focus (intro wq hSw; have hrd := hSw; have ql := Blk.lt hSw; have q0 := Blk.cellv hSw 0 (v := .int .i64 q.id) rfl; have q1 := Blk.cellv hSw 1 (v := .int .u32 q.ad) rfl; have q2 := Blk.cellv hSw 2 (v := .int .i64 q.wt) rfl; go_simp; try with_reducible rfl; done)); try simp only [Act.put, List.setIfInBounds_toArray, List.set_cons_zero, List.set_cons_succ])
        refine held_two 4 13 (by rfl) (by rfl) (by kernel_rfl) (by rfl) (by rfl) (fun KQ hKQ => ?_) (fun KQ hKQ => ?_)
        · skip
          go_simp
          have hb := (Below.refl w5q.drew.heap.size w5q.drew).alloc (Nat.le_refl _) (.cells #[.int .u8 (IntKind.u8.wrap (q.id))] 5)
          have hm4 : Blk (w5q.drew.alloc (.cells #[.int .u8 (IntKind.u8.wrap (q.id))] 5)) w5q.heap.size 5 #[.int .u8 (IntKind.u8.wrap (q.id))] := Blk.new w5q.drew 5 #[.int .u8 (IntKind.u8.wrap (q.id))]
          have hd9 : (w5q.alloc (.cells #[.int .u8 (IntKind.u8.wrap (q.id))] 5)).drew = w5q.drew.alloc (.cells #[.int .u8 (IntKind.u8.wrap (q.id))] 5) := rfl
          try rw [hd9]
          clear hd9
          have hn4 : some w5q.heap.size ≠ Value.ownBlock _ := fun e => Nat.lt_irrefl _ (ownB_lt hob e.symm).2
          obtain ⟨m4, em⟩ : ∃ m, m = w5q.heap.size := ⟨_, rfl⟩
          rw [← em] at hm4 hn4
          try rw [← em]
          replace em := Lib.hid em
          generalize w5q.drew.alloc (.cells #[.int .u8 (IntKind.u8.wrap (q.id))] 5) = y26_1 at *
          replace hb : Below w5q.heap.size w5q y26_1 := (Below.refl _ _).drew.trans hb
          replace hob := hob.below hb
          replace hD := hD.trans (hb.mono hBn)
          replace hBn := Nat.le_trans hBn hb.size
          replace h5q := h5q.below hb h5q.lt
          have hs19r := h5q
          refine hKQ.out _ _ hs19r ?_
          clear hKQ KQ
          try simp only [Act.put, List.setIfInBounds_toArray, List.set_cons_zero, List.set_cons_succ]
          clear hb
          refine held_two 5 13 (by rfl) (by rfl) (by kernel_rfl) (by rfl) (by rfl) (fun KQ hKQ => ?_) (fun KQ hKQ => ?_)
          · skip
            refine wp_app _ (.tmp 122) (.tmp 126) (by rfl) B _ _ (x16) (by rfl) hob _ _ 1 1 _ (by rfl) (blk_byt1 hm4) (by first | omega | (simp [bz_len]; omega)) hBn ?_
            intro v y26_2 hob1 hg1 hd1
            have hb := hob.below_app hg1 hBn
            replace h5q := h5q.grown hg1 (ownB_ne hob h5q (by decide))
            clear hob hg1 hd1
            have hob := hob1
            clear hob1
            replace hD := hD.trans hb
            replace hBn := Nat.le_trans hBn hb.size
            have hs20r := h5q
            refine hKQ.out _ _ hs20r ?_
            clear hKQ KQ
            try simp only [Act.put, List.setIfInBounds_toArray, List.set_cons_zero, List.set_cons_succ]
            clear hb
            refine held_two 9 13 (by rfl) (by rfl) (by kernel_rfl) (by rfl) (by rfl) (fun KQ hKQ => ?_) (fun KQ hKQ => ?_)
            · skip
              go_simp
              obtain ⟨A, cp, rfl, -, -, hby, -⟩ := hob.any2
              refine (refPutZ y26_2 A _ cp (x16 ++ bz (q.id) 1) hby (by first | omega | (simp [bz_len]; omega)) (q.ad) 4 (by omega) _ (by first | rfl | omega)).mono ?_
              rintro e y26_3 ⟨v, rfl, hob, hb⟩
              replace hob := ownB_less hob hBn
              replace hD := hD.trans (hb.mono hBn)
              replace hBn := Nat.le_trans hBn hb.size
              replace h5q := h5q.below hb h5q.lt
              have hs21r := h5q
              refine hKQ.out _ _ hs21r ?_
              clear hKQ KQ
              try simp only [Act.put, List.setIfInBounds_toArray, List.set_cons_zero, List.set_cons_succ]
              clear hb hby
              refine held_callA 13 (by rfl) (by kernel_rfl) (by rfl) (fun KQ hKQ => ?_)
              go_simp
              have hb := (Below.refl y26_3.heap.size y26_3).alloc (Nat.le_refl _) (.cells #[.int .u8 (IntKind.u8.wrap (q.wt))] 5)
              have hm13 : Blk (y26_3.alloc (.cells #[.int .u8 (IntKind.u8.wrap (q.wt))] 5)) y26_3.heap.size 5 #[.int .u8 (IntKind.u8.wrap (q.wt))] := Blk.new y26_3 5 #[.int .u8 (IntKind.u8.wrap (q.wt))]
              have hd9 : (y26_3.alloc (.cells #[.int .u8 (IntKind.u8.wrap (q.wt))] 5)).drew = y26_3.drew.alloc (.cells #[.int .u8 (IntKind.u8.wrap (q.wt))] 5) := rfl
              try rw [hd9]
              clear hd9
              have hn13 : some y26_3.heap.size ≠ Value.ownBlock _ := fun e => Nat.lt_irrefl _ (ownB_lt hob e.symm).2
              obtain ⟨m13, em⟩ : ∃ m, m = y26_3.heap.size := ⟨_, rfl⟩
              rw [← em] at hm13 hn13
              try rw [← em]
              replace em := Lib.hid em
              generalize y26_3.alloc (.cells #[.int .u8 (IntKind.u8.wrap (q.wt))] 5) = y26_4 at *
              replace hob := hob.below hb
              replace hD := hD.trans (hb.mono hBn)
              replace hBn := Nat.le_trans hBn hb.size
              replace h5q := h5q.below hb h5q.lt
              have hs22r := h5q
              refine hKQ.out _ _ hs22r ?_
              clear hKQ KQ
              try simp only [Act.put, List.setIfInBounds_toArray, List.set_cons_zero, List.set_cons_succ]
              clear hb
              refine held_callA 14 (by rfl) (by kernel_rfl) (by rfl) (fun KQ hKQ => ?_)
              refine wp_app _ (.tmp 131) (.tmp 135) (by rfl) B _ _ (x16 ++ bz (q.id) 1 ++ bz (q.ad) 4) (by rfl) hob _ _ 1 1 _ (by rfl) (blk_byt1 hm13) (by first | omega | (simp [bz_len]; omega)) hBn ?_
              intro v y26_5 hob1 hg1 hd1
              have hb := hob.below_app hg1 hBn
              replace h5q := h5q.grown hg1 (ownB_ne hob h5q (by decide))
              clear hob hg1 hd1
              have hob := hob1
              clear hob1
              replace hD := hD.trans hb
              replace hBn := Nat.le_trans hBn hb.size
              have hs23r := h5q
              refine hKQ.out _ _ hs23r ?_
              clear hKQ KQ
              try simp only [Act.put, List.setIfInBounds_toArray, List.set_cons_zero, List.set_cons_succ]
              (refine held_takeA 15 (by rfl) ?_ (by kernel_rfl) (fun _ _ _ h => h) hs23r ?_ ?_; rotate_left; (focus (intro wq hSw; have hrd := hSw; have ql := Blk.lt hSw; have q0 := Blk.cellv hSw 0 (v := .int .i64 q.id) rfl; have q1 := Blk.cellv hSw 1 (v := .int .u32 q.ad) rfl; have q2 := Blk.cellv hSw 2 (v := .int .i64 q.wt) rfl; go_simp; try with_reducible rfl; done)); try simp only [Act.put, List.setIfInBounds_toArray, List.set_cons_zero, List.set_cons_succ])
              clear hb
              refine wpAnyH_done (by kernel_rfl) ?_ _
              try refine NoPanic.normal ?_
              have hl9 := hob.len
              rw [← hl9] at hob
              obtain ⟨x17, hx17⟩ : ∃ x, x = x16 ++ bz (q.id) 1 ++ bz (q.ad) 4 ++ bz (q.wt) 1 := ⟨_, rfl⟩
              rw [← hx17] at hob
              replace hx17 := Lib.hid hx17
              clear hl9
              have hfin : x17 = x15 ++ (p.L.take (j + 1)).flatMap bndY := by
                rw [hstq.out, ← List.append_assoc, ← hx16.out]
                rw [hx17.out]; simp [bndY]
              rw [hfin] at hob
              go_wp2_with fail
              exact ⟨⟨_, j + 1, rfl, by omega, by go_num, hob, hD, hBn⟩, by simp [intOf]; omega⟩
            · skip
              go_simp
              have hb := (Below.refl y26_2.heap.size y26_2).alloc (Nat.le_refl _) (.cells #[.int .u8 (IntKind.u8.wrap (q.wt))] 5)
              have hm13 : Blk (y26_2.alloc (.cells #[.int .u8 (IntKind.u8.wrap (q.wt))] 5)) y26_2.heap.size 5 #[.int .u8 (IntKind.u8.wrap (q.wt))] := Blk.new y26_2 5 #[.int .u8 (IntKind.u8.wrap (q.wt))]
              have hd9 : (y26_2.alloc (.cells #[.int .u8 (IntKind.u8.wrap (q.wt))] 5)).drew = y26_2.drew.alloc (.cells #[.int .u8 (IntKind.u8.wrap (q.wt))] 5) := rfl
              try rw [hd9]
              clear hd9
              have hn13 : some y26_2.heap.size ≠ Value.ownBlock _ := fun e => Nat.lt_irrefl _ (ownB_lt hob e.symm).2
              obtain ⟨m13, em⟩ : ∃ m, m = y26_2.heap.size := ⟨_, rfl⟩
              rw [← em] at hm13 hn13
              try rw [← em]
              replace em := Lib.hid em
              generalize y26_2.alloc (.cells #[.int .u8 (IntKind.u8.wrap (q.wt))] 5) = y26_6 at *
              replace hob := hob.below hb
              replace hD := hD.trans (hb.mono hBn)
              replace hBn := Nat.le_trans hBn hb.size
              replace h5q := h5q.below hb h5q.lt
              have hs24r := h5q
              refine hKQ.out _ _ hs24r ?_
              clear hKQ KQ
              try simp only [Act.put, List.setIfInBounds_toArray, List.set_cons_zero, List.set_cons_succ]
              clear hb
              refine held_callA 9 (by rfl) (by kernel_rfl) (by rfl) (fun KQ hKQ => ?_)
              go_simp
              obtain ⟨A, cp, rfl, -, -, hby, -⟩ := hob.any2
              refine (refPutZ y26_6 A _ cp (x16 ++ bz (q.id) 1) hby (by first | omega | (simp [bz_len]; omega)) (q.ad) 4 (by omega) _ (by first | rfl | omega)).mono ?_
              rintro e y26_7 ⟨v, rfl, hob, hb⟩
              have hn13 : some m13 ≠ v.ownBlock := fun e => by have h1 := hm13.lt; have h2 := (ownB_lt hob e.symm).1; have h3 : y26_6.heap.size ≤ m13 := h2; omega
              replace hm13 := hm13.below hb hm13.lt
              replace hob := ownB_less hob hBn
              replace hD := hD.trans (hb.mono hBn)
              replace hBn := Nat.le_trans hBn hb.size
              replace h5q := h5q.below hb h5q.lt
              have hs25r := h5q
              refine hKQ.out _ _ hs25r ?_
              clear hKQ KQ
              try simp only [Act.put, List.setIfInBounds_toArray, List.set_cons_zero, List.set_cons_succ]
              clear hb hby
              refine held_callA 14 (by rfl) (by kernel_rfl) (by rfl) (fun KQ hKQ => ?_)
              refine wp_app _ (.tmp 131) (.tmp 135) (by rfl) B _ _ (x16 ++ bz (q.id) 1 ++ bz (q.ad) 4) (by rfl) hob _ _ 1 1 _ (by rfl) (blk_byt1 hm13) (by first | omega | (simp [bz_len]; omega)) hBn ?_
              intro v y26_8 hob1 hg1 hd1
              have hb := hob.below_app hg1 hBn
              replace h5q := h5q.grown hg1 (ownB_ne hob h5q (by decide))
              clear hob hg1 hd1
              have hob := hob1
              clear hob1
              replace hD := hD.trans hb
              replace hBn := Nat.le_trans hBn hb.size
              have hs26r := h5q
              refine hKQ.out _ _ hs26r ?_
              clear hKQ KQ
              try simp only [Act.put, List.setIfInBounds_toArray, List.set_cons_zero, List.set_cons_succ]
              (refine held_takeA 15 (by rfl) ?_ (by kernel_rfl) (fun _ _ _ h => h) hs26r ?_ ?_; rotate_left; (focus (intro wq hSw; have hrd := hSw; have ql := Blk.lt hSw; have q0 := Blk.cellv hSw 0 (v := .int .i64 q.id) rfl; have q1 := Blk.cellv hSw 1 (v := .int .u32 q.ad) rfl; have q2 := Blk.cellv hSw 2 (v := .int .i64 q.wt) rfl; go_simp; try with_reducible rfl; done)); try simp only [Act.put, List.setIfInBounds_toArray, List.set_cons_zero, List.set_cons_succ])
              clear hb
              refine wpAnyH_done (by kernel_rfl) ?_ _
              try refine NoPanic.normal ?_
              have hl9 := hob.len
              rw [← hl9] at hob
              obtain ⟨x17, hx17⟩ : ∃ x, x = x16 ++ bz (q.id) 1 ++ bz (q.ad) 4 ++ bz (q.wt) 1 := ⟨_, rfl⟩
              rw [← hx17] at hob
              replace hx17 := Lib.hid hx17
              clear hl9
              have hfin : x17 = x15 ++ (p.L.take (j + 1)).flatMap bndY := by
                rw [hstq.out, ← List.append_assoc, ← hx16.out]
                rw [hx17.out]; simp [bndY]
              rw [hfin] at hob
              go_wp2_with fail
              exact ⟨⟨_, j + 1, rfl, by omega, by go_num, hob, hD, hBn⟩, by simp [intOf]; omega⟩
          · skip
            go_simp
            have hb := (Below.refl y26_1.heap.size y26_1).alloc (Nat.le_refl _) (.cells #[.int .u8 (IntKind.u8.wrap (q.wt))] 5)
            have hm13 : Blk (y26_1.alloc (.cells #[.int .u8 (IntKind.u8.wrap (q.wt))] 5)) y26_1.heap.size 5 #[.int .u8 (IntKind.u8.wrap (q.wt))] := Blk.new y26_1 5 #[.int .u8 (IntKind.u8.wrap (q.wt))]
            have hd9 : (y26_1.alloc (.cells #[.int .u8 (IntKind.u8.wrap (q.wt))] 5)).drew = y26_1.drew.alloc (.cells #[.int .u8 (IntKind.u8.wrap (q.wt))] 5) := rfl
            try rw [hd9]
            clear hd9
            have hn13 : some y26_1.heap.size ≠ Value.ownBlock _ := fun e => Nat.lt_irrefl _ (ownB_lt hob e.symm).2
            obtain ⟨m13, em⟩ : ∃ m, m = y26_1.heap.size := ⟨_, rfl⟩
            rw [← em] at hm13 hn13
            try rw [← em]
            replace em := Lib.hid em
            generalize y26_1.alloc (.cells #[.int .u8 (IntKind.u8.wrap (q.wt))] 5) = y26_9 at *
            replace hm4 := hm4.below hb hm4.lt
            replace hob := hob.below hb
            replace hD := hD.trans (hb.mono hBn)
            replace hBn := Nat.le_trans hBn hb.size
            replace h5q := h5q.below hb h5q.lt
            have hs27r := h5q
            refine hKQ.out _ _ hs27r ?_
            clear hKQ KQ
            try simp only [Act.put, List.setIfInBounds_toArray, List.set_cons_zero, List.set_cons_succ]
            clear hb
            refine held_callA 5 (by rfl) (by kernel_rfl) (by rfl) (fun KQ hKQ => ?_)
            refine wp_app _ (.tmp 122) (.tmp 126) (by rfl) B _ _ (x16) (by rfl) hob _ _ 1 1 _ (by rfl) (blk_byt1 hm4) (by first | omega | (simp [bz_len]; omega)) hBn ?_
            intro v y26_10 hob1 hg1 hd1
            have hb := hob.below_app hg1 hBn
            replace h5q := h5q.grown hg1 (ownB_ne hob h5q (by decide))
            have hn13x : some m13 ≠ v.ownBlock := by
              rcases hd1 with e | e
              · rw [e]; exact hn13
              · rw [e]; intro e2; injection e2 with e2; have := hm13.lt; omega
            replace hm13 := hm13.grown hg1 hn13
            have hn13 := hn13x
            clear hn13x
            clear hob hg1 hd1
            have hob := hob1
            clear hob1
            replace hD := hD.trans hb
            replace hBn := Nat.le_trans hBn hb.size
            have hs28r := h5q
            refine hKQ.out _ _ hs28r ?_
            clear hKQ KQ
            try simp only [Act.put, List.setIfInBounds_toArray, List.set_cons_zero, List.set_cons_succ]
            clear hb
            refine held_callA 9 (by rfl) (by kernel_rfl) (by rfl) (fun KQ hKQ => ?_)
            go_simp
            obtain ⟨A, cp, rfl, -, -, hby, -⟩ := hob.any2
            refine (refPutZ y26_10 A _ cp (x16 ++ bz (q.id) 1) hby (by first | omega | (simp [bz_len]; omega)) (q.ad) 4 (by omega) _ (by first | rfl | omega)).mono ?_
            rintro e y26_11 ⟨v, rfl, hob, hb⟩
            have hn13 : some m13 ≠ v.ownBlock := fun e => by have h1 := hm13.lt; have h2 := (ownB_lt hob e.symm).1; have h3 : y26_10.heap.size ≤ m13 := h2; omega
            replace hm13 := hm13.below hb hm13.lt
            replace hob := ownB_less hob hBn
            replace hD := hD.trans (hb.mono hBn)
            replace hBn := Nat.le_trans hBn hb.size
            replace h5q := h5q.below hb h5q.lt
            have hs29r := h5q
            refine hKQ.out _ _ hs29r ?_
            clear hKQ KQ
            try simp only [Act.put, List.setIfInBounds_toArray, List.set_cons_zero, List.set_cons_succ]
            clear hb hby
            refine held_callA 14 (by rfl) (by kernel_rfl) (by rfl) (fun KQ hKQ => ?_)
            refine wp_app _ (.tmp 131) (.tmp 135) (by rfl) B _ _ (x16 ++ bz (q.id) 1 ++ bz (q.ad) 4) (by rfl) hob _ _ 1 1 _ (by rfl) (blk_byt1 hm13) (by first | omega | (simp [bz_len]; omega)) hBn ?_
            intro v y26_12 hob1 hg1 hd1
            have hb := hob.below_app hg1 hBn
            replace h5q := h5q.grown hg1 (ownB_ne hob h5q (by decide))
            clear hob hg1 hd1
            have hob := hob1
            clear hob1
            replace hD := hD.trans hb
            replace hBn := Nat.le_trans hBn hb.size
            have hs30r := h5q
            refine hKQ.out _ _ hs30r ?_
            clear hKQ KQ
            try simp only [Act.put, List.setIfInBounds_toArray, List.set_cons_zero, List.set_cons_succ]
            (refine held_takeA 15 (by rfl) ?_ (by kernel_rfl) (fun _ _ _ h => h) hs30r ?_ ?_; rotate_left; (focus (intro wq hSw; have hrd := hSw; have ql := Blk.lt hSw; have q0 := Blk.cellv hSw 0 (v := .int .i64 q.id) rfl; have q1 := Blk.cellv hSw 1 (v := .int .u32 q.ad) rfl; have q2 := Blk.cellv hSw 2 (v := .int .i64 q.wt) rfl; go_simp; try with_reducible rfl; done)); try simp only [Act.put, List.setIfInBounds_toArray, List.set_cons_zero, List.set_cons_succ])
            clear hb
            refine wpAnyH_done (by kernel_rfl) ?_ _
            try refine NoPanic.normal ?_
            have hl9 := hob.len
            rw [← hl9] at hob
            obtain ⟨x17, hx17⟩ : ∃ x, x = x16 ++ bz (q.id) 1 ++ bz (q.ad) 4 ++ bz (q.wt) 1 := ⟨_, rfl⟩
            rw [← hx17] at hob
            replace hx17 := Lib.hid hx17
            clear hl9
            have hfin : x17 = x15 ++ (p.L.take (j + 1)).flatMap bndY := by
              rw [hstq.out, ← List.append_assoc, ← hx16.out]
              rw [hx17.out]; simp [bndY]
            rw [hfin] at hob
            go_wp2_with fail
            exact ⟨⟨_, j + 1, rfl, by omega, by go_num, hob, hD, hBn⟩, by simp [intOf]; omega⟩
        · skip
          go_simp
          have hb := (Below.refl w5q.drew.heap.size w5q.drew).alloc (Nat.le_refl _) (.cells #[.int .u8 (IntKind.u8.wrap (q.wt))] 5)
          have hm13 : Blk (w5q.drew.alloc (.cells #[.int .u8 (IntKind.u8.wrap (q.wt))] 5)) w5q.heap.size 5 #[.int .u8 (IntKind.u8.wrap (q.wt))] := Blk.new w5q.drew 5 #[.int .u8 (IntKind.u8.wrap (q.wt))]
          have hd9 : (w5q.alloc (.cells #[.int .u8 (IntKind.u8.wrap (q.wt))] 5)).drew = w5q.drew.alloc (.cells #[.int .u8 (IntKind.u8.wrap (q.wt))] 5) := rfl
          try rw [hd9]
          clear hd9
          have hn13 : some w5q.heap.size ≠ Value.ownBlock _ := fun e => Nat.lt_irrefl _ (ownB_lt hob e.symm).2
          obtain ⟨m13, em⟩ : ∃ m, m = w5q.heap.size := ⟨_, rfl⟩
          rw [← em] at hm13 hn13
          try rw [← em]
          replace em := Lib.hid em
          generalize w5q.drew.alloc (.cells #[.int .u8 (IntKind.u8.wrap (q.wt))] 5) = y26_13 at *
          replace hb : Below w5q.heap.size w5q y26_13 := (Below.refl _ _).drew.trans hb
          replace hob := hob.below hb
          replace hD := hD.trans (hb.mono hBn)
          replace hBn := Nat.le_trans hBn hb.size
          replace h5q := h5q.below hb h5q.lt
          have hs31r := h5q
          refine hKQ.out _ _ hs31r ?_
          clear hKQ KQ
          try simp only [Act.put, List.setIfInBounds_toArray, List.set_cons_zero, List.set_cons_succ]
          clear hb
          refine held_callA 4 (by rfl) (by kernel_rfl) (by rfl) (fun KQ hKQ => ?_)
          go_simp
          have hb := (Below.refl y26_13.heap.size y26_13).alloc (Nat.le_refl _) (.cells #[.int .u8 (IntKind.u8.wrap (q.id))] 5)
          have hm4 : Blk (y26_13.alloc (.cells #[.int .u8 (IntKind.u8.wrap (q.id))] 5)) y26_13.heap.size 5 #[.int .u8 (IntKind.u8.wrap (q.id))] := Blk.new y26_13 5 #[.int .u8 (IntKind.u8.wrap (q.id))]
          have hd9 : (y26_13.alloc (.cells #[.int .u8 (IntKind.u8.wrap (q.id))] 5)).drew = y26_13.drew.alloc (.cells #[.int .u8 (IntKind.u8.wrap (q.id))] 5) := rfl
          try rw [hd9]
          clear hd9
          have hn4 : some y26_13.heap.size ≠ Value.ownBlock _ := fun e => Nat.lt_irrefl _ (ownB_lt hob e.symm).2
          obtain ⟨m4, em⟩ : ∃ m, m = y26_13.heap.size := ⟨_, rfl⟩
          rw [← em] at hm4 hn4
          try rw [← em]
          replace em := Lib.hid em
          generalize y26_13.alloc (.cells #[.int .u8 (IntKind.u8.wrap (q.id))] 5) = y26_14 at *
          replace hm13 := hm13.below hb hm13.lt
          replace hob := hob.below hb
          replace hD := hD.trans (hb.mono hBn)
          replace hBn := Nat.le_trans hBn hb.size
          replace h5q := h5q.below hb h5q.lt
          have hs32r := h5q
          refine hKQ.out _ _ hs32r ?_
          clear hKQ KQ
          try simp only [Act.put, List.setIfInBounds_toArray, List.set_cons_zero, List.set_cons_succ]
          clear hb
          refine held_callA 5 (by rfl) (by kernel_rfl) (by rfl) (fun KQ hKQ => ?_)
          refine wp_app _ (.tmp 122) (.tmp 126) (by rfl) B _ _ (x16) (by rfl) hob _ _ 1 1 _ (by rfl) (blk_byt1 hm4) (by first | omega | (simp [bz_len]; omega)) hBn ?_
          intro v y26_15 hob1 hg1 hd1
          have hb := hob.below_app hg1 hBn
          replace h5q := h5q.grown hg1 (ownB_ne hob h5q (by decide))
          have hn13x : some m13 ≠ v.ownBlock := by
            rcases hd1 with e | e
            · rw [e]; exact hn13
            · rw [e]; intro e2; injection e2 with e2; have := hm13.lt; omega
          replace hm13 := hm13.grown hg1 hn13
          have hn13 := hn13x
          clear hn13x
          clear hob hg1 hd1
          have hob := hob1
          clear hob1
          replace hD := hD.trans hb
          replace hBn := Nat.le_trans hBn hb.size
          have hs33r := h5q
          refine hKQ.out _ _ hs33r ?_
          clear hKQ KQ
          try simp only [Act.put, List.setIfInBounds_toArray, List.set_cons_zero, List.set_cons_succ]
          clear hb
          refine held_callA 9 (by rfl) (by kernel_rfl) (by rfl) (fun KQ hKQ => ?_)
          go_simp
          obtain ⟨A, cp, rfl, -, -, hby, -⟩ := hob.any2
          refine (refPutZ y26_15 A _ cp (x16 ++ bz (q.id) 1) hby (by first | omega | (simp [bz_len]; omega)) (q.ad) 4 (by omega) _ (by first | rfl | omega)).mono ?_
          rintro e y26_16 ⟨v, rfl, hob, hb⟩
          have hn13 : some m13 ≠ v.ownBlock := fun e => by have h1 := hm13.lt; have h2 := (ownB_lt hob e.symm).1; have h3 : y26_15.heap.size ≤ m13 := h2; omega
          replace hm13 := hm13.below hb hm13.lt
          replace hob := ownB_less hob hBn
          replace hD := hD.trans (hb.mono hBn)
          replace hBn := Nat.le_trans hBn hb.size
          replace h5q := h5q.below hb h5q.lt
          have hs34r := h5q
          refine hKQ.out _ _ hs34r ?_
          clear hKQ KQ
          try simp only [Act.put, List.setIfInBounds_toArray, List.set_cons_zero, List.set_cons_succ]
          clear hb hby
          refine held_callA 14 (by rfl) (by kernel_rfl) (by rfl) (fun KQ hKQ => ?_)
          refine wp_app _ (.tmp 131) (.tmp 135) (by rfl) B _ _ (x16 ++ bz (q.id) 1 ++ bz (q.ad) 4) (by rfl) hob _ _ 1 1 _ (by rfl) (blk_byt1 hm13) (by first | omega | (simp [bz_len]; omega)) hBn ?_
          intro v y26_17 hob1 hg1 hd1
          have hb := hob.below_app hg1 hBn
          replace h5q := h5q.grown hg1 (ownB_ne hob h5q (by decide))
          clear hob hg1 hd1
          have hob := hob1
          clear hob1
          replace hD := hD.trans hb
          replace hBn := Nat.le_trans hBn hb.size
          have hs35r := h5q
          refine hKQ.out _ _ hs35r ?_
          clear hKQ KQ
          try simp only [Act.put, List.setIfInBounds_toArray, List.set_cons_zero, List.set_cons_succ]
          (refine held_takeA 15 (by rfl) ?_ (by kernel_rfl) (fun _ _ _ h => h) hs35r ?_ ?_; rotate_left; (focus (intro wq hSw; have hrd := hSw; have ql := Blk.lt hSw; have q0 := Blk.cellv hSw 0 (v := .int .i64 q.id) rfl; have q1 := Blk.cellv hSw 1 (v := .int .u32 q.ad) rfl; have q2 := Blk.cellv hSw 2 (v := .int .i64 q.wt) rfl; go_simp; try with_reducible rfl; done)); try simp only [Act.put, List.setIfInBounds_toArray, List.set_cons_zero, List.set_cons_succ])
          clear hb
          refine wpAnyH_done (by kernel_rfl) ?_ _
          try refine NoPanic.normal ?_
          have hl9 := hob.len
          rw [← hl9] at hob
          obtain ⟨x17, hx17⟩ : ∃ x, x = x16 ++ bz (q.id) 1 ++ bz (q.ad) 4 ++ bz (q.wt) 1 := ⟨_, rfl⟩
          rw [← hx17] at hob
          replace hx17 := Lib.hid hx17
          clear hl9
          have hfin : x17 = x15 ++ (p.L.take (j + 1)).flatMap bndY := by
            rw [hstq.out, ← List.append_assoc, ← hx16.out]
            rw [hx17.out]; simp [bndY]
          rw [hfin] at hob
          go_wp2_with fail
          exact ⟨⟨_, j + 1, rfl, by omega, by go_num, hob, hD, hBn⟩, by simp [intOf]; omega⟩
      have hkn : j = p.n := by omega
      subst hkn
      rw [List.take_of_length_le (by rw [hbl.out.symm]; exact Nat.le_refl _)] at hob
      generalize wr = u16 at *
      have hle := bnd_le hbl3 p.n
      rw [List.take_of_length_le (by rw [hbl.out.symm]; exact Nat.le_refl _)] at hle
      obtain ⟨x18, hx18⟩ : ∃ x, x = x15 ++ p.L.flatMap bndY := ⟨_, rfl⟩
      rw [← hx18] at hob
      have hy18 : x18.length ≤ 560000 := by rw [hx18, List.length_append]; omega
      replace hx18 := Lib.hid hx18
      clear hle
      have hfin : x18 = x13 ++ (c.V.take (k + 1)).flatMap vipY := by
        rw [hstp.out, ← List.append_assoc, ← hx14.out]
        rw [hx18.out, hx15.out, hbl.out]; simp [vipY]
      rw [hfin] at hob
      go_wp2_with fail
      exact ⟨⟨_, k + 1, rfl, by omega, by go_num, hob, hD, hBn⟩, by simp [intOf]; omega⟩
    have hkn : k = c.vn := by omega
    subst hkn
    rw [List.take_of_length_le (by rw [hV1.out]; exact Nat.le_refl _)] at hob
    generalize wr = u14 at *
    have hle := vips_le hCw.out hs c.vn
    rw [List.take_of_length_le (by rw [hV1.out]; exact Nat.le_refl _)] at hle
    obtain ⟨x19, hx19⟩ : ∃ x, x = x13 ++ c.V.flatMap vipY := ⟨_, rfl⟩
    rw [← hx19] at hob
    have hy19 : x19.length ≤ 555000 := by rw [hx19, List.length_append]; omega
    replace hx19 := Lib.hid hx19
    clear hle
    have hcut2 := Lib.hid (show x19 = headY c ++ c.P.flatMap peerY ++ bz c.V.length 1 ++ c.V.flatMap vipY by rw [hx19.out, hx13.out, hx12.out, hV1.out])
    clear hx19 hx13 hx12
    have q5 := ek.out 5 (.slice A5 c.sn c.sc) (by rw [hA5.out]; rfl) hD
    have ql : w.heap.size < u14.heap.size := by omega
    have hoa := hob.alloc (.cells #[.int .u8 (((c.sn : Int)) % 256)] 5)
    have hxa := one_byteZ u14 ((c.sn : Int))
    have hna : B ≤ (u14.alloc (.cells #[.int .u8 (((c.sn : Int)) % 256)] 5)).heap.size := by rw [World.size_alloc]; omega
    go_upto_region 30 with (at_builtin; refine wpList_app _ rfl (.tmp 139) (.tmp 144) rfl B _ x19.length x19 rfl hoa _ _ 1 1 _ rfl hxa (by omega) hna ?_; intro v v20 hob1 hg1 hd1)
    have hb := hoa.below_app hg1 hna
    have hba := (hD.alloc hBn (.cells #[.int .u8 (((c.sn : Int)) % 256)] 5))
    clear hd1 hob hg1 hoa hxa
    have hob := hob1
    replace hD := hba.trans hb
    replace hBn := Nat.le_trans hna hb.size
    clear hob1 hb hba hna q5 ql 
    obtain ⟨x20, hx20⟩ : ∃ x, x = x19 ++ (bz ((c.sn : Int)) 1) := ⟨_, rfl⟩
    have hz20 : x20.length = x19.length + 1 := by rw [hx20, List.length_append]; simp [bz_len]
    rw [← hx20, ← hz20] at hob
    have hy20 : x20.length ≤ 555001 := by omega
    replace hx20 := Lib.hid hx20
    clear hz20
    have q5 := ek.out 5 (.slice A5 c.sn c.sc) (by rw [hA5.out]; rfl) hD
    have ql : w.heap.size < v20.heap.size := by omega
    go_upto_region 31 with (fail)
    clear q5 ql 
    go_loopw [5, 149] (fun bv i wr => ∃ (v : Value) (k : Nat), v = bv ∧ k ≤ c.sn ∧ i = .int .i64 (k : Int) ∧ OwnB wr B v (x20 ++ (c.S.take k).flatMap siteY).length (x20 ++ (c.S.take k).flatMap siteY) ∧ Below B w3 wr ∧ B ≤ wr.heap.size) (fun _ i _ => c.sn - (intOf i).toNat)
    case atStart => exact ⟨_, 0, rfl, Nat.zero_le _, rfl, by simpa using hob, hD, hBn⟩
    case round =>
    clear hob hD hBn
    obtain ⟨v, k, rfl, hk, rfl, hob, hD, hBn⟩ := hrel
    by_cases hlt : k < c.sn
    · have hki : (k : Int) < c.sn := by omega
      have hk0 : (0 : Int) ≤ k := by omega
      have hk300 : (k : Int) ≤ 300 := by omega
      obtain ⟨b, off, p, e1, hb, hp, hokp, r0, r1, r2⟩ := site_cells (hS5.below hD fun _ q => q) hlt
      subst e1
      have hstp := Lib.hid (flat_next (f := siteY) hp)
      have hle := sites_le hCw.out hs k
      obtain ⟨x21, hx21⟩ : ∃ x, x = x20 ++ (c.S.take k).flatMap siteY := ⟨_, rfl⟩
      rw [← hx21] at hob
      have hy21 : x21.length ≤ 560000 := by rw [hx21, List.length_append]; omega
      replace hx21 := Lib.hid hx21
      have hbx := (Below.refl wr.heap.size wr).alloc (Nat.le_refl _) (.cells #[.int .i64 p.id, .int .u32 p.ad, .int .i64 p.cost] 82)
      have h5p := Blk.new wr 82 #[.int .i64 p.id, .int .u32 p.ad, .int .i64 p.cost]
      have hlb : b < wr.heap.size := Nat.lt_of_lt_of_le hb hBn
      go_upto_region 33 with (fail)
      generalize wr.alloc (.cells #[.int .i64 p.id, .int .u32 p.ad, .int .i64 p.cost] 82) = w5p at *
      replace hob := hob.below hbx
      replace hD := hD.trans (hbx.mono hBn)
      replace hBn := Nat.le_trans hBn hbx.size
      clear hbx hb hlb r0 r1 r2
      generalize wr.heap.size = ap at *
      have hpu := hokp.2.1
      unfold IsU at hpu
      -- region 33: 0 1 2 3 4M 5M 6 7 8 9C 10 11 12 13C 14
      try refine wp_region_noPanic ?_
      have hs36r : (fun w' => Blk w' ap 82 #[.int .i64 p.id, .int .u32 p.ad, .int .i64 p.cost]) w5p.drew := h5p
      refine wp_region_held_drew (S := fun w' => Blk w' ap 82 #[.int .i64 p.id, .int .u32 p.ad, .int .i64 p.cost]) (by kernel_rfl) hs36r (fun _ => ?_)
      (refine held_takeA 0 (by rfl) ?_ (by kernel_rfl) (fun _ _ _ h => h) hs36r ?_ ?_; rotate_left; (focus (intro wq hSw; have hrd := hSw; have ql := Blk.lt hSw; have q0 := Blk.cellv hSw 0 (v := .int .i64 p.id) rfl; have q1 := Blk.cellv hSw 1 (v := .int .u32 p.ad) rfl; have q2 := Blk.cellv hSw 2 (v := .int .i64 p.cost) rfl; go_simp; try with_reducible rfl; done)); try simp only [Act.put, List.setIfInBounds_toArray, List.set_cons_zero, List.set_cons_succ])
      (refine held_takeA 1 (by rfl) ?_ (by kernel_rfl) (fun _ _ _ h => h) hs36r ?_ ?_; rotate_left; (focus (intro wq hSw; have hrd := hSw; have ql := Blk.lt hSw; have q0 := Blk.cellv hSw 0 (v := .int .i64 p.id) rfl; have q1 := Blk.cellv hSw 1 (v := .int .u32 p.ad) rfl; have q2 := Blk.cellv hSw 2 (v := .int .i64 p.cost) rfl; go_simp; try with_reducible rfl; done)); try simp only [Act.put, List.setIfInBounds_toArray, List.set_cons_zero, List.set_cons_succ])
      (refine held_takeA 2 (by rfl) ?_ (by kernel_rfl) (fun _ _ _ h => h) hs36r ?_ ?_; rotate_left; (focus (intro wq hSw; have hrd := hSw; have ql := Blk.lt hSw; have q0 := Blk.cellv hSw 0 (v := .int .i64 p.id) rfl; have q1 := Blk.cellv hSw 1 (v := .int .u32 p.ad) rfl; have q2 := Blk.cellv hSw 2 (v := .int .i64 p.cost) rfl; go_simp; try with_reducible rfl; done)); try simp only [Act.put, List.setIfInBounds_toArray, List.set_cons_zero, List.set_cons_succ])
      (refine held_takeA 3 (by rfl) ?_ (by kernel_rfl) (fun _ _ _ h => h) hs36r ?_ ?_; rotate_left; (focus (intro wq hSw; have hrd := hSw; have ql := Blk.lt hSw; have q0 := Blk.cellv hSw 0 (v := .int .i64 p.id) rfl; have q1 := Blk.cellv hSw 1 (v := .int .u32 p.ad) rfl; have q2 := Blk.cellv hSw 2 (v := .int .i64 p.cost) rfl; go_simp; try with_reducible rfl; done)); try simp only [Act.put, List.setIfInBounds_toArray, List.set_cons_zero, List.set_cons_succ])
      (refine held_takeA 6 (by rfl) ?_ (by kernel_rfl) (fun _ _ _ h => h) hs36r ?_ ?_; rotate_left; (focus (intro wq hSw; have hrd := hSw; have ql := Blk.lt hSw; have q0 := Blk.cellv hSw 0 (v := .int .i64 p.id) rfl; have q1 := Blk.cellv hSw 1 (v := .int .u32 p.ad) rfl; have q2 := Blk.cellv hSw 2 (v := .int .i64 p.cost) rfl; go_simp; try with_reducible rfl; done)); try simp only [Act.put, List.setIfInBounds_toArray, List.set_cons_zero, List.set_cons_succ])
      (refine held_takeA 7 (by rfl) ?_ (by kernel_rfl) (fun _ _ _ h => h) hs36r ?_ ?_; rotate_left; (focus (intro wq hSw; have hrd := hSw; have ql := Blk.lt hSw; have q0 := Blk.cellv hSw 0 (v := .int .i64 p.id) rfl; have q1 := Blk.cellv hSw 1 (v := .int .u32 p.ad) rfl; have q2 := Blk.cellv hSw 2 (v := .int .i64 p.cost) rfl; go_simp; try with_reducible rfl; done)); try simp only [Act.put, List.setIfInBounds_toArray, List.set_cons_zero, List.set_cons_succ])
      (refine held_takeA 8 (by rfl) ?_ (by kernel_rfl) (fun _ _ _ h => h) hs36r ?_ ?_; rotate_left; (focus (intro wq hSw; have hrd := hSw; have ql := Blk.lt hSw; have q0 := Blk.cellv hSw 0 (v := .int .i64 p.id) rfl; have q1 := Blk.cellv hSw 1 (v := .int .u32 p.ad) rfl; have q2 := Blk.cellv hSw 2 (v := .int .i64 p.cost) rfl; go_simp; try with_reducible rfl; done)); try simp only [Act.put, List.setIfInBounds_toArray, List.set_cons_zero, List.set_cons_succ])
      (refine held_takeA 10 (by rfl) ?_ (by kernel_rfl) (fun _ _ _ h => h) hs36r ?_ ?_; rotate_left; (focus (intro wq hSw; have hrd := hSw; have ql := Blk.lt hSw; have q0 := Blk.cellv hSw 0 (v := .int .i64 p.id) rfl; have q1 := Blk.cellv hSw 1 (v := .int .u32 p.ad) rfl; have q2 := Blk.cellv hSw 2 (v := .int .i64 p.cost) rfl; go_simp; try with_reducible rfl; done)); try simp only [Act.put, List.setIfInBounds_toArray, List.set_cons_zero, List.set_cons_succ])
      (refine held_takeA 11 (by rfl) ?_ (by kernel_rfl) (fun _ _ _ h => h) hs36r ?_ ?_; rotate_left; (focus (intro wq hSw; have hrd := hSw; have ql := Blk.lt hSw; have q0 := Blk.cellv hSw 0 (v := .int .i64 p.id) rfl; have q1 := Blk.cellv hSw 1 (v := .int .u32 p.ad) rfl; have q2 := Blk.cellv hSw 2 (v := .int .i64 p.cost) rfl; go_simp; try with_reducible rfl; done)); try simp only [Act.put, List.setIfInBounds_toArray, List.set_cons_zero, List.set_cons_succ])
      (refine held_takeA 12 (by rfl) ?_ (by kernel_rfl) (fun _ _ _ h => h) hs36r ?_ ?_; rotate_left; (focus (intro wq hSw; have hrd := hSw; have ql := Blk.lt hSw; have q0 := Blk.cellv hSw 0 (v := .int .i64 p.id) rfl; have q1 := Blk.cellv hSw 1 (v := .int .u32 p.ad) rfl; have q2 := Blk.cellv hSw 2 (v := .int .i64 p.cost) rfl; go_simp; try with_reducible rfl; done)); try simp only [Act.put, List.setIfInBounds_toArray, List.set_cons_zero, List.set_cons_succ])
      refine held_callA 4 (by rfl) (by kernel_rfl) (by rfl) (fun KQ hKQ => ?_)
      go_simp
      have hb := (Below.refl w5p.drew.heap.size w5p.drew).alloc (Nat.le_refl _) (.cells #[.int .u8 (IntKind.u8.wrap (p.id))] 5)
      have hm4 : Blk (w5p.drew.alloc (.cells #[.int .u8 (IntKind.u8.wrap (p.id))] 5)) w5p.heap.size 5 #[.int .u8 (IntKind.u8.wrap (p.id))] := Blk.new w5p.drew 5 #[.int .u8 (IntKind.u8.wrap (p.id))]
      have hd9 : (w5p.alloc (.cells #[.int .u8 (IntKind.u8.wrap (p.id))] 5)).drew = w5p.drew.alloc (.cells #[.int .u8 (IntKind.u8.wrap (p.id))] 5) := rfl
      try rw [hd9]
      clear hd9
      have hn4 : some w5p.heap.size ≠ Value.ownBlock _ := fun e => Nat.lt_irrefl _ (ownB_lt hob e.symm).2
      obtain ⟨m4, em⟩ : ∃ m, m = w5p.heap.size := ⟨_, rfl⟩
      rw [← em] at hm4 hn4
      try rw [← em]
      replace em := Lib.hid em
      generalize w5p.drew.alloc (.cells #[.int .u8 (IntKind.u8.wrap (p.id))] 5) = y33_1 at *
      replace hb : Below w5p.heap.size w5p y33_1 := (Below.refl _ _).drew.trans hb
      replace hob := hob.below hb
      replace hD := hD.trans (hb.mono hBn)
      replace hBn := Nat.le_trans hBn hb.size
      replace h5p := h5p.below hb h5p.lt
      have hs37r := h5p
      refine hKQ.out _ _ hs37r ?_
      clear hKQ KQ
      try simp only [Act.put, List.setIfInBounds_toArray, List.set_cons_zero, List.set_cons_succ]
      clear hb
      refine held_callA 5 (by rfl) (by kernel_rfl) (by rfl) (fun KQ hKQ => ?_)
      refine wp_app _ (.tmp 153) (.tmp 157) (by rfl) B _ _ (x21) (by rfl) hob _ _ 1 1 _ (by rfl) (blk_byt1 hm4) (by first | omega | (simp [bz_len]; omega)) hBn ?_
      intro v y33_2 hob1 hg1 hd1
      have hb := hob.below_app hg1 hBn
      replace h5p := h5p.grown hg1 (ownB_ne hob h5p (by decide))
      clear hob hg1 hd1
      have hob := hob1
      clear hob1
      replace hD := hD.trans hb
      replace hBn := Nat.le_trans hBn hb.size
      have hs38r := h5p
      refine hKQ.out _ _ hs38r ?_
      clear hKQ KQ
      try simp only [Act.put, List.setIfInBounds_toArray, List.set_cons_zero, List.set_cons_succ]
      clear hb
      refine held_callA 9 (by rfl) (by kernel_rfl) (by rfl) (fun KQ hKQ => ?_)
      go_simp
      obtain ⟨A, cp, rfl, -, -, hby, -⟩ := hob.any2
      refine (refPutZ y33_2 A _ cp (x21 ++ bz (p.id) 1) hby (by first | omega | (simp [bz_len]; omega)) (p.ad) 4 (by omega) _ (by first | rfl | omega)).mono ?_
      rintro e y33_3 ⟨v, rfl, hob, hb⟩
      replace hob := ownB_less hob hBn
      replace hD := hD.trans (hb.mono hBn)
      replace hBn := Nat.le_trans hBn hb.size
      replace h5p := h5p.below hb h5p.lt
      have hs39r := h5p
      refine hKQ.out _ _ hs39r ?_
      clear hKQ KQ
      try simp only [Act.put, List.setIfInBounds_toArray, List.set_cons_zero, List.set_cons_succ]
      clear hb hby
      refine held_callA 13 (by rfl) (by kernel_rfl) (by rfl) (fun KQ hKQ => ?_)
      go_simp
      obtain ⟨A, cp, rfl, -, -, hby, -⟩ := hob.any2
      refine (refPutZ y33_3 A _ cp (x21 ++ bz (p.id) 1 ++ bz (p.ad) 4) hby (by first | omega | (simp [bz_len]; omega)) (p.cost) 4 (by omega) _ (by first | rfl | omega)).mono ?_
      rintro e y33_4 ⟨v, rfl, hob, hb⟩
      replace hob := ownB_less hob hBn
      replace hD := hD.trans (hb.mono hBn)
      replace hBn := Nat.le_trans hBn hb.size
      replace h5p := h5p.below hb h5p.lt
      have hs40r := h5p
      refine hKQ.out _ _ hs40r ?_
      clear hKQ KQ
      try simp only [Act.put, List.setIfInBounds_toArray, List.set_cons_zero, List.set_cons_succ]
      (refine held_takeA 14 (by rfl) ?_ (by kernel_rfl) (fun _ _ _ h => h) hs40r ?_ ?_; rotate_left; (focus (intro wq hSw; have hrd := hSw; have ql := Blk.lt hSw; have q0 := Blk.cellv hSw 0 (v := .int .i64 p.id) rfl; have q1 := Blk.cellv hSw 1 (v := .int .u32 p.ad) rfl; have q2 := Blk.cellv hSw 2 (v := .int .i64 p.cost) rfl; go_simp; try with_reducible rfl; done)); try simp only [Act.put, List.setIfInBounds_toArray, List.set_cons_zero, List.set_cons_succ])
      clear hb hby
      refine wpAnyH_done (by kernel_rfl) ?_ _
      try refine NoPanic.normal ?_
      have hl9 := hob.len
      rw [← hl9] at hob
      obtain ⟨x22, hx22⟩ : ∃ x, x = x21 ++ bz (p.id) 1 ++ bz (p.ad) 4 ++ bz (p.cost) 4 := ⟨_, rfl⟩
      rw [← hx22] at hob
      replace hx22 := Lib.hid hx22
      clear hl9
      have hfin : x22 = x20 ++ (c.S.take (k + 1)).flatMap siteY := by
        rw [hstp.out, ← List.append_assoc, ← hx21.out]
        rw [hx22.out]; simp [siteY]
      rw [hfin] at hob
      go_wp2_with fail
      exact ⟨⟨_, k + 1, rfl, by omega, by go_num, hob, hD, hBn⟩, by simp [intOf]; omega⟩
    have hkn : k = c.sn := by omega
    subst hkn
    rw [List.take_of_length_le (by rw [hT1.out]; exact Nat.le_refl _)] at hob
    generalize wr = u21 at *
    have hle := sites_le hCw.out hs c.sn
    rw [List.take_of_length_le (by rw [hT1.out]; exact Nat.le_refl _)] at hle
    obtain ⟨x23, hx23⟩ : ∃ x, x = x20 ++ c.S.flatMap siteY := ⟨_, rfl⟩
    rw [← hx23] at hob
    have hy23 : x23.length ≤ 560000 := by rw [hx23, List.length_append]; omega
    replace hx23 := Lib.hid hx23
    clear hle
    have q6 := ek.out 6 (.int .i64 c.rise) rfl hD
    have q7 := ek.out 7 (.int .i64 c.fall) rfl hD
    have ql : w.heap.size < u21.heap.size := by omega
    have hoa := hob.alloc (.cells #[.int .u8 ((c.rise) % 256), .int .u8 ((c.fall) % 256)] 5)
    have hxa := two_bytes u21 (c.rise) (c.fall)
    have hna : B ≤ (u21.alloc (.cells #[.int .u8 ((c.rise) % 256), .int .u8 ((c.fall) % 256)] 5)).heap.size := by rw [World.size_alloc]; omega
    go_upto_region 36 with (at_builtin; refine wpList_app _ rfl (.tmp 168) (.tmp 175) rfl B _ x23.length x23 rfl hoa _ _ 2 2 _ rfl hxa (by omega) hna ?_; intro v v24 hob1 hg1 hd1)
    have hb := hoa.below_app hg1 hna
    have hba := (hD.alloc hBn (.cells #[.int .u8 ((c.rise) % 256), .int .u8 ((c.fall) % 256)] 5))
    clear hd1 hob hg1 hoa hxa
    have hob := hob1
    replace hD := hba.trans hb
    replace hBn := Nat.le_trans hna hb.size
    clear hob1 hb hba hna q6 q7 ql 
    obtain ⟨x24, hx24⟩ : ∃ x, x = x23 ++ (bz (c.rise) 1 ++ bz (c.fall) 1) := ⟨_, rfl⟩
    have hz24 : x24.length = x23.length + 2 := by rw [hx24, List.length_append]; simp [bz_len]
    rw [← hx24, ← hz24] at hob
    have hy24 : x24.length ≤ 560002 := by omega
    replace hx24 := Lib.hid hx24
    clear hz24
    have q8 := ek.out 8 (.int .i64 c.every) rfl hD
    have q9 := ek.out 9 (.int .i64 c.pat) rfl hD
    have q10 := ek.out 10 (.int .i64 c.room) rfl hD
    have ql : w.heap.size < v24.heap.size := by omega
    have f0 := ix3_0
    have f1 := ix3_1
    have f2 := ix3_2
    go_wp2_with fail
    refine wp_loop_rounds 4 ?_
    change Code.rounds _ _ _ _ _ v24
    rw [rounds_succ]
    clear q8 q9 q10 ql 
    obtain ⟨A, cp, rfl, -, -, hby, -⟩ := hob.any2
    go_wp2_with fail
    refine (refPutZ v24 A x24.length cp x24 hby (by omega) (c.every) 2 (by omega) _ ((by first | rfl | omega))).mono ?_
    rintro e v25 ⟨v, rfl, hob, hb⟩
    replace hob := ownB_less hob hBn
    replace hD := hD.trans (hb.mono hBn)
    replace hBn := Nat.le_trans hBn hb.size
    clear hb hby   
    obtain ⟨x25, hx25⟩ : ∃ x, x = x24 ++ (bz (c.every) 2) := ⟨_, rfl⟩
    have hz25 : x25.length = x24.length + 2 := by rw [hx25, List.length_append]; simp [bz_len]
    rw [← hx25, ← hz25] at hob
    have hy25 : x25.length ≤ 560004 := by omega
    replace hx25 := Lib.hid hx25
    clear hz25
    go_wp2_with fail
    rw [rounds_succ]
    obtain ⟨A, cp, rfl, -, -, hby, -⟩ := hob.any2
    go_wp2_with fail
    refine (refPutZ v25 A x25.length cp x25 hby (by omega) (c.pat) 2 (by omega) _ ((by first | rfl | omega))).mono ?_
    rintro e v26 ⟨v, rfl, hob, hb⟩
    replace hob := ownB_less hob hBn
    replace hD := hD.trans (hb.mono hBn)
    replace hBn := Nat.le_trans hBn hb.size
    clear hb hby   
    obtain ⟨x26, hx26⟩ : ∃ x, x = x25 ++ (bz (c.pat) 2) := ⟨_, rfl⟩
    have hz26 : x26.length = x25.length + 2 := by rw [hx26, List.length_append]; simp [bz_len]
    rw [← hx26, ← hz26] at hob
    have hy26 : x26.length ≤ 560006 := by omega
    replace hx26 := Lib.hid hx26
    clear hz26
    go_wp2_with fail
    rw [rounds_succ]
    obtain ⟨A, cp, rfl, -, -, hby, -⟩ := hob.any2
    go_wp2_with fail
    refine (refPutZ v26 A x26.length cp x26 hby (by omega) (c.room) 2 (by omega) _ ((by first | rfl | omega))).mono ?_
    rintro e v27 ⟨v, rfl, hob, hb⟩
    replace hob := ownB_less hob hBn
    replace hD := hD.trans (hb.mono hBn)
    replace hBn := Nat.le_trans hBn hb.size
    clear hb hby   
    obtain ⟨x27, hx27⟩ : ∃ x, x = x26 ++ (bz (c.room) 2) := ⟨_, rfl⟩
    have hz27 : x27.length = x26.length + 2 := by rw [hx27, List.length_append]; simp [bz_len]
    rw [← hx27, ← hz27] at hob
    have hy27 : x27.length ≤ 560008 := by omega
    replace hx27 := Lib.hid hx27
    clear hz27
    go_wp2_with fail
    rw [rounds_succ]
    clear f0 f1 f2
    have q11 := ek.out 11 (.int .i64 c.idle) rfl hD
    have q12 := ek.out 12 (.int .i64 c.queue) rfl hD
    have q13 := ek.out 13 (.int .i64 c.dF) rfl hD
    have q14 := ek.out 14 (.int .i64 c.dS) rfl hD
    have q15 := ek.out 15 (.int .i64 c.dR) rfl hD
    have q16 := ek.out 16 (.int .i64 c.dC) rfl hD
    have ql : w.heap.size < v27.heap.size := by omega
    have f0 := ix6_0
    have f1 := ix6_1
    have f2 := ix6_2
    have f3 := ix6_3
    have f4 := ix6_4
    have f5 := ix6_5
    go_wp2_with fail
    refine wp_loop_rounds 7 ?_
    change Code.rounds _ _ _ _ _ v27
    rw [rounds_succ]
    clear q11 q12 q13 q14 q15 q16 ql 
    obtain ⟨A, cp, rfl, -, -, hby, -⟩ := hob.any2
    go_wp2_with fail
    refine (refPutZ v27 A x27.length cp x27 hby (by omega) (c.idle) 4 (by omega) _ ((by first | rfl | omega))).mono ?_
    rintro e v28 ⟨v, rfl, hob, hb⟩
    replace hob := ownB_less hob hBn
    replace hD := hD.trans (hb.mono hBn)
    replace hBn := Nat.le_trans hBn hb.size
    clear hb hby   
    obtain ⟨x28, hx28⟩ : ∃ x, x = x27 ++ (bz (c.idle) 4) := ⟨_, rfl⟩
    have hz28 : x28.length = x27.length + 4 := by rw [hx28, List.length_append]; simp [bz_len]
    rw [← hx28, ← hz28] at hob
    have hy28 : x28.length ≤ 560012 := by omega
    replace hx28 := Lib.hid hx28
    clear hz28
    go_wp2_with fail
    rw [rounds_succ]
    obtain ⟨A, cp, rfl, -, -, hby, -⟩ := hob.any2
    go_wp2_with fail
    refine (refPutZ v28 A x28.length cp x28 hby (by omega) (c.queue) 4 (by omega) _ ((by first | rfl | omega))).mono ?_
    rintro e v29 ⟨v, rfl, hob, hb⟩
    replace hob := ownB_less hob hBn
    replace hD := hD.trans (hb.mono hBn)
    replace hBn := Nat.le_trans hBn hb.size
    clear hb hby   
    obtain ⟨x29, hx29⟩ : ∃ x, x = x28 ++ (bz (c.queue) 4) := ⟨_, rfl⟩
    have hz29 : x29.length = x28.length + 4 := by rw [hx29, List.length_append]; simp [bz_len]
    rw [← hx29, ← hz29] at hob
    have hy29 : x29.length ≤ 560016 := by omega
    replace hx29 := Lib.hid hx29
    clear hz29
    go_wp2_with fail
    rw [rounds_succ]
    obtain ⟨A, cp, rfl, -, -, hby, -⟩ := hob.any2
    go_wp2_with fail
    refine (refPutZ v29 A x29.length cp x29 hby (by omega) (c.dF) 4 (by omega) _ ((by first | rfl | omega))).mono ?_
    rintro e v30 ⟨v, rfl, hob, hb⟩
    replace hob := ownB_less hob hBn
    replace hD := hD.trans (hb.mono hBn)
    replace hBn := Nat.le_trans hBn hb.size
    clear hb hby   
    obtain ⟨x30, hx30⟩ : ∃ x, x = x29 ++ (bz (c.dF) 4) := ⟨_, rfl⟩
    have hz30 : x30.length = x29.length + 4 := by rw [hx30, List.length_append]; simp [bz_len]
    rw [← hx30, ← hz30] at hob
    have hy30 : x30.length ≤ 560020 := by omega
    replace hx30 := Lib.hid hx30
    clear hz30
    go_wp2_with fail
    rw [rounds_succ]
    obtain ⟨A, cp, rfl, -, -, hby, -⟩ := hob.any2
    go_wp2_with fail
    refine (refPutZ v30 A x30.length cp x30 hby (by omega) (c.dS) 4 (by omega) _ ((by first | rfl | omega))).mono ?_
    rintro e v31 ⟨v, rfl, hob, hb⟩
    replace hob := ownB_less hob hBn
    replace hD := hD.trans (hb.mono hBn)
    replace hBn := Nat.le_trans hBn hb.size
    clear hb hby   
    obtain ⟨x31, hx31⟩ : ∃ x, x = x30 ++ (bz (c.dS) 4) := ⟨_, rfl⟩
    have hz31 : x31.length = x30.length + 4 := by rw [hx31, List.length_append]; simp [bz_len]
    rw [← hx31, ← hz31] at hob
    have hy31 : x31.length ≤ 560024 := by omega
    replace hx31 := Lib.hid hx31
    clear hz31
    go_wp2_with fail
    rw [rounds_succ]
    obtain ⟨A, cp, rfl, -, -, hby, -⟩ := hob.any2
    go_wp2_with fail
    refine (refPutZ v31 A x31.length cp x31 hby (by omega) (c.dR) 4 (by omega) _ ((by first | rfl | omega))).mono ?_
    rintro e v32 ⟨v, rfl, hob, hb⟩
    replace hob := ownB_less hob hBn
    replace hD := hD.trans (hb.mono hBn)
    replace hBn := Nat.le_trans hBn hb.size
    clear hb hby   
    obtain ⟨x32, hx32⟩ : ∃ x, x = x31 ++ (bz (c.dR) 4) := ⟨_, rfl⟩
    have hz32 : x32.length = x31.length + 4 := by rw [hx32, List.length_append]; simp [bz_len]
    rw [← hx32, ← hz32] at hob
    have hy32 : x32.length ≤ 560028 := by omega
    replace hx32 := Lib.hid hx32
    clear hz32
    go_wp2_with fail
    rw [rounds_succ]
    obtain ⟨A, cp, rfl, -, -, hby, -⟩ := hob.any2
    go_wp2_with fail
    refine (refPutZ v32 A x32.length cp x32 hby (by omega) (c.dC) 4 (by omega) _ ((by first | rfl | omega))).mono ?_
    rintro e v33 ⟨v, rfl, hob, hb⟩
    replace hob := ownB_less hob hBn
    replace hD := hD.trans (hb.mono hBn)
    replace hBn := Nat.le_trans hBn hb.size
    clear hb hby   
    obtain ⟨x33, hx33⟩ : ∃ x, x = x32 ++ (bz (c.dC) 4) := ⟨_, rfl⟩
    have hz33 : x33.length = x32.length + 4 := by rw [hx33, List.length_append]; simp [bz_len]
    rw [← hx33, ← hz33] at hob
    have hy33 : x33.length ≤ 560032 := by omega
    replace hx33 := Lib.hid hx33
    clear hz33
    go_wp2_with fail
    rw [rounds_succ]
    clear f0 f1 f2 f3 f4 f5
    have q17 := ek.out 17 (.int .i64 c.dH) rfl hD
    have q18 := ek.out 18 (.int .i64 c.ttl) rfl hD
    have ql : w.heap.size < v33.heap.size := by omega
    obtain ⟨A, cp, rfl, -, -, hby, -⟩ := hob.any2
    go_upto_region 46 with (fail)
    -- region 46: 0 1 2 3 4 5C 6 7 8 9C 10
    try refine wp_region_noPanic ?_
    have hs41r : Below v33.heap.size v33 v33.drew := (Below.refl _ _).drew
    refine wp_region_held_drew (S := fun w' => Below v33.heap.size v33 w') (by kernel_rfl) hs41r (fun _ => ?_)
    (refine held_takeA 0 (by rfl) ?_ (by kernel_rfl) (fun _ _ _ h => h) hs41r ?_ ?_; rotate_left; (focus (intro wq hSw; have hrd : ∀ b o, b < v33.heap.size → wq.cell? ⟨b, o, none⟩ = v33.cell? ⟨b, o, none⟩ := (fun b o h => hSw.cell (p := ⟨b, o, none⟩) h); go_simp; try with_reducible rfl; done)); try simp only [Act.put, List.setIfInBounds_toArray, List.set_cons_zero, List.set_cons_succ])
    (refine held_takeA 1 (by rfl) ?_ (by kernel_rfl) (fun _ _ _ h => h) hs41r ?_ ?_; rotate_left; (focus (intro wq hSw; have hrd : ∀ b o, b < v33.heap.size → wq.cell? ⟨b, o, none⟩ = v33.cell? ⟨b, o, none⟩ := (fun b o h => hSw.cell (p := ⟨b, o, none⟩) h); go_simp; try with_reducible rfl; done)); try simp only [Act.put, List.setIfInBounds_toArray, List.set_cons_zero, List.set_cons_succ])
    (refine held_takeA 2 (by rfl) ?_ (by kernel_rfl) (fun _ _ _ h => h) hs41r ?_ ?_; rotate_left; (focus (intro wq hSw; have hrd : ∀ b o, b < v33.heap.size → wq.cell? ⟨b, o, none⟩ = v33.cell? ⟨b, o, none⟩ := (fun b o h => hSw.cell (p := ⟨b, o, none⟩) h); go_simp; try with_reducible rfl; done)); try simp only [Act.put, List.setIfInBounds_toArray, List.set_cons_zero, List.set_cons_succ])
    (refine held_takeA 3 (by rfl) ?_ (by kernel_rfl) (fun _ _ _ h => h) hs41r ?_ ?_; rotate_left; (focus (intro wq hSw; have hrd : ∀ b o, b < v33.heap.size → wq.cell? ⟨b, o, none⟩ = v33.cell? ⟨b, o, none⟩ := (fun b o h => hSw.cell (p := ⟨b, o, none⟩) h); go_simp; try with_reducible rfl; done)); try simp only [Act.put, List.setIfInBounds_toArray, List.set_cons_zero, List.set_cons_succ])
    (refine held_takeA 4 (by rfl) ?_ (by kernel_rfl) (fun _ _ _ h => h) hs41r ?_ ?_; rotate_left; (focus (intro wq hSw; have hrd : ∀ b o, b < v33.heap.size → wq.cell? ⟨b, o, none⟩ = v33.cell? ⟨b, o, none⟩ := (fun b o h => hSw.cell (p := ⟨b, o, none⟩) h); go_simp; try with_reducible rfl; done)); try simp only [Act.put, List.setIfInBounds_toArray, List.set_cons_zero, List.set_cons_succ])
    (refine held_takeA 6 (by rfl) ?_ (by kernel_rfl) (fun _ _ _ h => h) hs41r ?_ ?_; rotate_left; (focus (intro wq hSw; have hrd : ∀ b o, b < v33.heap.size → wq.cell? ⟨b, o, none⟩ = v33.cell? ⟨b, o, none⟩ := (fun b o h => hSw.cell (p := ⟨b, o, none⟩) h); go_simp; try with_reducible rfl; done)); try simp only [Act.put, List.setIfInBounds_toArray, List.set_cons_zero, List.set_cons_succ])
    (refine held_takeA 7 (by rfl) ?_ (by kernel_rfl) (fun _ _ _ h => h) hs41r ?_ ?_; rotate_left; (focus (intro wq hSw; have hrd : ∀ b o, b < v33.heap.size → wq.cell? ⟨b, o, none⟩ = v33.cell? ⟨b, o, none⟩ := (fun b o h => hSw.cell (p := ⟨b, o, none⟩) h); go_simp; try with_reducible rfl; done)); try simp only [Act.put, List.setIfInBounds_toArray, List.set_cons_zero, List.set_cons_succ])
    (refine held_takeA 8 (by rfl) ?_ (by kernel_rfl) (fun _ _ _ h => h) hs41r ?_ ?_; rotate_left; (focus (intro wq hSw; have hrd : ∀ b o, b < v33.heap.size → wq.cell? ⟨b, o, none⟩ = v33.cell? ⟨b, o, none⟩ := (fun b o h => hSw.cell (p := ⟨b, o, none⟩) h); go_simp; try with_reducible rfl; done)); try simp only [Act.put, List.setIfInBounds_toArray, List.set_cons_zero, List.set_cons_succ])
    refine held_callA 5 (by rfl) (by kernel_rfl) (by rfl) (fun KQ hKQ => ?_)
    go_simp
    refine (refPutZ v33.drew A x33.length cp x33 hby (by omega) (c.dH) 2 (by omega) _ (by first | rfl | omega)).mono ?_
    rintro e v34 ⟨v, rfl, hob, hb⟩
    replace hb : Below v33.heap.size v33 v34 := (Below.refl _ _).drew.trans hb
    replace hob := ownB_less hob hBn
    replace hD := hD.trans (hb.mono hBn)
    replace hBn := Nat.le_trans hBn hb.size
    refine hKQ.out _ _ (hs41r.trans (show Below v33.drew.heap.size v33.drew v34 from ⟨hb.os, hb.tape, hb.output, hb.size, hb.block⟩)) (held_mono (S' := fun w' => Below v34.heap.size v34 w') (fun w' h => (hs41r.trans (show Below v33.drew.heap.size v33.drew v34 from ⟨hb.os, hb.tape, hb.output, hb.size, hb.block⟩)).trans (h.mono (hs41r.trans (show Below v33.drew.heap.size v33.drew v34 from ⟨hb.os, hb.tape, hb.output, hb.size, hb.block⟩)).size)) _ _ _ _ ?_)
    clear hKQ KQ
    have hs42r : Below v34.heap.size v34 v34 := Below.refl _ _
    try simp only [Act.put, List.setIfInBounds_toArray, List.set_cons_zero, List.set_cons_succ]
    clear hb hby
    obtain ⟨x34, hx34⟩ : ∃ x, x = x33 ++ (bz (c.dH) 2) := ⟨_, rfl⟩
    have hz34 : x34.length = x33.length + 2 := by rw [hx34, List.length_append]; simp [bz_len]
    rw [← hx34, ← hz34] at hob
    have hy34 : x34.length ≤ 560034 := by omega
    replace hx34 := Lib.hid hx34
    clear hz34
    obtain ⟨A, cp, rfl, -, -, hby, -⟩ := hob.any2
    refine held_callA 9 (by rfl) (by kernel_rfl) (by rfl) (fun KQ hKQ => ?_)
    go_simp
    refine (refPutZ v34 A x34.length cp x34 hby (by omega) (c.ttl) 4 (by omega) _ (by first | rfl | omega)).mono ?_
    rintro e v35 ⟨v, rfl, hob, hb⟩
    replace hob := ownB_less hob hBn
    replace hD := hD.trans (hb.mono hBn)
    replace hBn := Nat.le_trans hBn hb.size
    refine hKQ.out _ _ (hs42r.trans hb) (held_mono (S' := fun w' => Below v35.heap.size v35 w') (fun w' h => (hs42r.trans hb).trans (h.mono (hs42r.trans hb).size)) _ _ _ _ ?_)
    clear hKQ KQ
    have hs43r : Below v35.heap.size v35 v35 := Below.refl _ _
    try simp only [Act.put, List.setIfInBounds_toArray, List.set_cons_zero, List.set_cons_succ]
    (refine held_takeA 10 (by rfl) ?_ (by kernel_rfl) (fun _ _ _ h => h) hs43r ?_ ?_; rotate_left; (focus (intro wq hSw; have hrd : ∀ b o, b < v35.heap.size → wq.cell? ⟨b, o, none⟩ = v35.cell? ⟨b, o, none⟩ := (fun b o h => hSw.cell (p := ⟨b, o, none⟩) h); go_simp; try with_reducible rfl; done)); try simp only [Act.put, List.setIfInBounds_toArray, List.set_cons_zero, List.set_cons_succ])
    clear hb hby
    obtain ⟨x35, hx35⟩ : ∃ x, x = x34 ++ (bz (c.ttl) 4) := ⟨_, rfl⟩
    have hz35 : x35.length = x34.length + 4 := by rw [hx35, List.length_append]; simp [bz_len]
    rw [← hx35, ← hz35] at hob
    have hy35 : x35.length ≤ 560038 := by omega
    replace hx35 := Lib.hid hx35
    clear hz35
    refine wpAnyH_done (by kernel_rfl) ?_ _
    try refine NoPanic.normal ?_
    clear q17 q18 ql 
    have hall := Lib.hid (show x35 = outY c by
      rw [e2.out, hx35.out, hx34.out, hx33.out, hx32.out, hx31.out, hx30.out, hx29.out, hx28.out, hx27.out, hx26.out, hx25.out, hx24.out, hx23.out, hx20.out, hcut2.out, ← hT1.out]
      simp [cfgY, tailY])
    go_wp2_with fail
    go_ret
    refine ⟨_, rfl, ?_, hB.trans (hD.mono hBw)⟩
    rw [← hall.out]
    exact ownB_less hob hBw
  · have e1 : errC c = 12 := by unfold errC; rw [if_neg h0]
    have e2 : outY c = [] := by unfold outY; rw [if_neg h0]
    rw [e1]
    clear e1
    replace e2 := Lib.hid e2
    replace h0 := Lib.hid h0
    go_wp2_with fail
    go_ret
    rw [e2.out]
    exact ⟨_, rfl, OwnB.nil _ _, hB⟩
end Go.Proofs.YtecmhakapomepaaGreat
