/- open: plain. -/
import Derived.Test.YtlpplclhjkbjbaaOpC
namespace Go.Proofs.Ytlpplclhjkbjbaa
set_option linter.unusedVariables false
open Go.RowKit

set_option maxRecDepth 100000 in
set_option maxHeartbeats 8000000 in
theorem plain8_any (w : World) (a h id : Int) (A : Option Addr) (n c : Nat) (cs : List CapV) (hS : Seen capK w (fun b => b < w.heap.size) A n cs) (hn : n ≤ 10000) :
    Calls Try.prog 33 #[.agg #[.int .i64 a, .int .i64 h, .int .u32 id, .slice A n c]] w fun e w' => ∃ v, e = .returned (.agg #[.int .i64 a, .int .i64 h, .int .u32 id, v]) ∧ Rows capK w' 0 w.heap.size 129 v cs ∧ Below w.heap.size w w' := by
  have hi : (Try.prog.info? 64).map (·.size) = some 4 := by kernel_rfl
  have hl := Lib.hid hS.1
  have hB1 := (Below.refl w.heap.size w).alloc (Nat.le_refl _) (.cells #[.int .i64 a, .int .i64 h, .int .u32 id, .slice A n c] 57)
  have hq1 := Blk.new w 57 #[.int .i64 a, .int .i64 h, .int .u32 id, .slice A n c]
  generalize hw1 : w.alloc (.cells #[.int .i64 a, .int .i64 h, .int .u32 id, .slice A n c] 57) = w1 at hB1 hq1
  have hB2 := hB1.alloc hB1.size (.cells #[.int .i64 0, .int .i64 0, .int .u32 0, .slice none 0 0] 64)
  have hq2 := Blk.new w1 64 #[.int .i64 0, .int .i64 0, .int .u32 0, .slice none 0 0]
  have hq1b := hq1.alloc (.cells #[.int .i64 0, .int .i64 0, .int .u32 0, .slice none 0 0] 64)
  have lt1 := hq1.lt
  generalize hw2 : w1.alloc (.cells #[.int .i64 0, .int .i64 0, .int .u32 0, .slice none 0 0] 64) = w2 at hB2 hq2 hq1b
  have hB3 := hB2.alloc hB2.size (.cells #[.int .i64 a, .int .i64 h, .int .u32 id, .slice none 0 0] 64)
  have hq3 := Blk.new w2 64 #[.int .i64 a, .int .i64 h, .int .u32 id, .slice none 0 0]
  have hq2b := hq2.alloc (.cells #[.int .i64 a, .int .i64 h, .int .u32 id, .slice none 0 0] 64)
  have lt2 := hq2.lt
  have lt1b := hq1b.lt
  have x0 : w2.cell? ⟨w.heap.size, 0, none⟩ = some (.int .i64 a) := hq1b.cellv 0 rfl
  have x1 : w2.cell? ⟨w.heap.size, 1, none⟩ = some (.int .i64 h) := hq1b.cellv 1 rfl
  have x2 : w2.cell? ⟨w.heap.size, 2, none⟩ = some (.int .u32 id) := hq1b.cellv 2 rfl
  have x3 : w2.cell? ⟨w.heap.size, 3, none⟩ = some (.slice A n c) := hq1b.cellv 3 rfl
  go_enter Try.func33, Try.ntmps33
  go_wp2_with fail
  generalize hw3 : w2.alloc (.cells #[.int .i64 a, .int .i64 h, .int .u32 id, .slice none 0 0] 64) = w3 at hB3 hq3 hq2b
  have lt3 := hq3.lt
  have hz2 := hB2.size
  have hz3 := hB3.size
  have hnil := Own1.nil w3 (w2.heap.size + 1) 129 2
  clear hw1 hw2 hw3 hB1 hB2 hq1 hq1b x0 x1 x2 x3 hq2
  go_loopw [5, 16] (fun _ i wr => ∃ (k : Nat) (v : Value), k ≤ n ∧ i = .int .i64 (k : Int) ∧ Blk wr w2.heap.size 64 #[.int .i64 a, .int .i64 h, .int .u32 id, v] ∧ Blk wr w1.heap.size 64 #[.int .i64 0, .int .i64 0, .int .u32 0, .slice none 0 0] ∧ Own1 wr (w2.heap.size + 1) 129 2 v (cs.take k).length ((cs.take k).flatMap capK.cel) ∧ Below w.heap.size w wr) (fun _ i _ => n - (intOf i).toNat)
  case atStart => exact ⟨0, _, Nat.zero_le _, rfl, hq3, hq2b, hnil, hB3⟩
  case round =>
  clear hB3 hq3 hq2b hnil
  obtain ⟨k, v, hk, rfl, hq, hqz, hown, hB⟩ := hrel
  have hzB := hB.size
  have ltq := hq.lt
  have hS2 := hS.below hB fun _ hb => hb
  have hrow : Rows capK wr 0 (w2.heap.size + 1) 129 v (cs.take k) := ⟨hown, fun e he => capK.more (hS2.2.1 e (List.mem_of_mem_take he)) fun b hb => ⟨Nat.zero_le _, Nat.lt_of_lt_of_le hb hzB, fun e2 => by have := (hown.lt b e2).1; omega⟩⟩
  have htl : (cs.take k).length = k := by rw [List.length_take]; have := hl.out; omega
  rw [htl] at hown
  obtain ⟨A0, q0, ev, _, _, _⟩ := hrow.seen (Nat.zero_le _)
  rw [htl] at ev
  subst ev
  by_cases hlt : k < n
  · obtain ⟨b, off, r, rfl, hb, hr, hrok, c0, c1⟩ := cap_cells hS2 hlt
    have hki : (k : Int) < n := by omega
    have hj : cs.take (k + 1) = cs.take k ++ [r] := by rw [List.take_add_one, hr]; rfl
    have hbx := (Below.refl wr.heap.size wr).alloc (Nat.le_refl _) (.cells #[.int .i64 r.t, .slice r.A r.n r.c] 60)
    have hqx := Blk.new wr 60 #[.int .i64 r.t, .slice r.A r.n r.c]
    generalize hx1 : wr.alloc (.cells #[.int .i64 r.t, .slice r.A r.n r.c] 60) = x1 at hbx hqx
    have hrow2 := hrow.below hbx
    have hok2 : capK.ok x1 (fun b => b < w.heap.size) r := capK.keep hrok fun p hp => hbx.cell (Nat.lt_of_lt_of_le hp hzB)
    have ltx := hqx.lt
    have e0 : x1.cell? ⟨wr.heap.size, 0, none⟩ = some (.int .i64 r.t) := hqx.cellv 0 rfl
    have e1 : x1.cell? ⟨wr.heap.size, 1, none⟩ = some (.slice r.A r.n r.c) := hqx.cellv 1 rfl
    have hzx := hbx.size
    replace hq := hq.below hbx ltq
    replace hqz := hqz.below hbx (by omega)
    replace ltq := hq.lt
    have f3 : x1.cell? ⟨w2.heap.size, 3, none⟩ = some (.slice A0 k q0) := hq.cellv 3 rfl
    have hone := seen_one x1 129 r #[.int .i64 r.t, .slice r.A r.n r.c] rfl hok2 (S' := fun b => b < x1.heap.size + 1) (fun b hb => by omega) (Nat.lt_succ_self _) (fun b hb => by omega)
    have hby := (Below.refl x1.heap.size x1).alloc (Nat.le_refl _) (.cells #[.int .i64 r.t, .slice r.A r.n r.c] 129)
    have hrow3 := hrow2.alloc (.cells #[.int .i64 r.t, .slice r.A r.n r.c] 129)
    have hok3 : capK.ok (x1.alloc (.cells #[.int .i64 r.t, .slice r.A r.n r.c] 129)) (fun b => b < w.heap.size) r := capK.keep hok2 fun p hp => hby.cell (by omega)
    have hzy := hby.size
    have hok4 : ∀ e ∈ [r], capK.ok (x1.alloc (.cells #[.int .i64 r.t, .slice r.A r.n r.c] 129)) (fun b => 0 ≤ b ∧ b < (x1.alloc (.cells #[.int .i64 r.t, .slice r.A r.n r.c] 129)).heap.size ∧ (Value.slice A0 k q0).ownBlock ≠ some b) e := fun e he => by
      obtain rfl : e = r := by simpa using he
      exact capK.more hok3 fun b hb => ⟨Nat.zero_le _, by omega, fun e2 => by have := (hrow3.own b e2).1; omega⟩
    replace hj := Lib.hid hj
    replace htl := Lib.hid htl
    go_wp2_with (at_builtin; refine wpList_rows refCap_ok rfl (.tmp 21) (.tmp 23) rfl hrow3 rfl rfl hone hok4 (by rw [htl.out]; unfold maxLen; omega) (by rw [htl.out]; omega) (by omega) ?_; intro v4 w4 hrow4 hg4; have hb4 := hrow3.below_app hg4 (by omega); have hq4 := (hq.alloc (.cells #[.int .i64 r.t, .slice r.A r.n r.c] 129)).below hb4 (by omega); have hqz4 := (hqz.alloc (.cells #[.int .i64 r.t, .slice r.A r.n r.c] 129)).below hb4 (by omega); obtain ⟨A4, c4, ev4, _, _, _⟩ := hrow4.seen (Nat.zero_le _); have el4 : (cs.take k ++ [r]).length = k + 1 := (by rw [List.length_append, htl.out]; rfl); rw [el4] at ev4; clear el4; subst ev4; have fz4 := hq4.frozen 3; have g4 := hq4.cellv 3 rfl)
    obtain ⟨hq5, hg5⟩ := blk_store hq4 3 (.slice A4 (k + 1) c4)
    have hb4b : Below w.heap.size w w4 := hB.trans (((hbx.trans (hby.mono hzx)).mono hzB).trans (hb4.mono (by omega)))
    refine ⟨⟨k + 1, _, by omega, by go_num, hq5, hqz4.grown hg5 (by simp; omega), ?_, below_own hb4b hg5 hb4b.size (by omega)⟩, by simp [intOf]; omega⟩
    rw [hj.out]
    exact hrow4.1.kept hg5 (by
      cases hv : (Value.slice A4 (k + 1) c4).ownBlock with
      | none => exact .inl rfl
      | some q => exact .inr (by intro e; injection e with e; have := (hrow4.own q hv).1; omega))
  · obtain rfl : k = n := by omega
    clear htl
    have htk : cs.take k = cs := List.take_of_length_le (by rw [hl.out]; omega)
    rw [htk] at hrow
    have y0 : wr.cell? ⟨w2.heap.size, 0, none⟩ = some (.int .i64 a) := hq.cellv 0 rfl
    have y1 : wr.cell? ⟨w2.heap.size, 1, none⟩ = some (.int .i64 h) := hq.cellv 1 rfl
    have y2 : wr.cell? ⟨w2.heap.size, 2, none⟩ = some (.int .u32 id) := hq.cellv 2 rfl
    have y3 : wr.cell? ⟨w2.heap.size, 3, none⟩ = some (.slice A0 k q0) := hq.cellv 3 rfl
    clear hown
    replace htk := Lib.hid htk
    go_wp2_with (refine wpList_store_blk rfl hqz 64 (.tmp 2) (.tmp 27) rfl rfl rfl rfl hi (by simp [Value.oneCell']) ?_; intro w9 hr9 hg9)
    refine bodyPost_ret (results_c rfl _ rfl (load_blk hr9 Try.underlying64 rfl hi)) rfl ?_
    have hb9 : Below w.heap.size w w9 := below_own hB hg9 hB.size (by omega)
    have hrow9 : Rows capK w9 0 (w2.heap.size + 1) 129 (.slice A0 k q0) cs := ⟨hrow.1.kept hg9 (by
      cases hv : (Value.slice A0 k q0).ownBlock with
      | none => exact .inl rfl
      | some q => exact .inr (by intro e; injection e with e; have := (hrow.own q hv).1; omega)), fun e he => capK.more (capK.keep (hS.2.1 e he) fun p hp => hb9.cell hp) fun b hb => ⟨Nat.zero_le _, Nat.lt_of_lt_of_le hb hb9.size, fun e2 => by have := (hrow.own b e2).1; omega⟩⟩
    exact ⟨_, rfl, hrow9.less (Nat.le_refl _) (by omega), hb9⟩
end Go.Proofs.Ytlpplclhjkbjbaa
