/- the text of an address. -/
import Derived.Test.YthbfnppgaaeilaaDoorCdA
import Derived.Deep.Cut
import Derived.LoopTactic
namespace Go.Proofs.YthbfnppgaaeilaaDoor
set_option linter.unusedVariables false
open Go Go.RowKit

/-- a part of an address. -/
def octA (a : Int) (k : Nat) : Nat := (a / 2 ^ (24 - 8 * k) % 256).toNat
def octD (a : Int) (k : Nat) : List UInt8 := Lib.decDigits (octA a k)
/-- the text of an address. -/
def addrL (a : Int) : List UInt8 := Lib.join [octD a 0, octD a 1, octD a 2, octD a 3] [46]
theorem octA_lt (a : Int) (k : Nat) : octA a k < 256 := by unfold octA; omega
theorem octD_len (a : Int) (k : Nat) : (octD a k).length ≤ 20 := by
  unfold octD
  rw [Lib.decDigits_length]
  exact Lib.nDigits_le20 _ (by have := octA_lt a k; omega)
theorem addrL_eq (a : Int) : addrL a = octD a 0 ++ 46 :: (octD a 1 ++ 46 :: (octD a 2 ++ 46 :: octD a 3)) := by
  simp [addrL, Lib.join, List.intercalate, List.intersperse]
theorem addrL_len (a : Int) : (addrL a).length ≤ 83 := by
  have := octD_len a 0; have := octD_len a 1; have := octD_len a 2; have := octD_len a 3
  rw [addrL_eq]
  simp; omega
theorem itoaO_any (w : World) (hP : Pow w) (a : Int) (k : Nat) : Calls Tryd.prog 29 #[.int .i64 (octA a k : Int)] w fun e w' => e = .returned (.string (strB (octD a k))) ∧ Below w.heap.size w w' := by
  have h := itoa_any w hP (octA a k) (by omega) (by have := octA_lt a k; omega)
  have e : Lib.itoa (octA a k : Int) = octD a k := by unfold Lib.itoa octD; rw [if_neg (by omega)]; rfl
  rwa [e] at h
set_option maxRecDepth 100000 in
set_option maxHeartbeats 4000000 in
theorem addr_any (w : World) (hP : Pow w) (a : Int) (h0 : 0 ≤ a) (h1 : a ≤ 4294967295) :
    Calls Tryd.prog 30 #[.int .u32 a] w fun e w' => e = .returned (.string (strB (addrL a))) ∧ Below w.heap.size w w' := by
  have hmk : ∀ w, (Instr.makeSlice 55 (.int .i64 4) (.int .i64 4)).run Tryd.prog w = .ok (.slice (some ⟨w.heap.size, 0, none⟩) 4 4) (w.alloc (.cells #[.string ⟨#[]⟩, .string ⟨#[]⟩, .string ⟨#[]⟩, .string ⟨#[]⟩] 9)) := fun w => by
    have := run_make_row' (P := Tryd.prog) 55 9 (.string ⟨#[]⟩) 16 Tryd.underlying55 (by kernel_rfl) (by rfl) .i64 .i64 4 (by omega) (by omega) w
    rw [show madeCells #[(.string ⟨#[]⟩ : Value)] 4 = #[.string ⟨#[]⟩, .string ⟨#[]⟩, .string ⟨#[]⟩, .string ⟨#[]⟩] from by unfold madeCells; rw [show Array.range 4 = #[0, 1, 2, 3] from by decide]; simp] at this
    exact this
  have hB := (Below.refl w.heap.size w).alloc (Nat.le_refl _) (.cells #[.string ⟨#[]⟩, .string ⟨#[]⟩, .string ⟨#[]⟩, .string ⟨#[]⟩] 9)
  have hq := Blk.new w 9 #[.string ⟨#[]⟩, .string ⟨#[]⟩, .string ⟨#[]⟩, .string ⟨#[]⟩]
  have hP1 := hP.below hB
  have c0 : (octA a 0 : Int) = a / 16777216 := by unfold octA; simp; omega
  have c1 : (octA a 1 : Int) = a / 65536 % 256 := by unfold octA; simp; omega
  have c2 : (octA a 2 : Int) = a / 256 % 256 := by unfold octA; simp; omega
  have c3 : (octA a 3 : Int) = a % 256 := by unfold octA; simp; omega
  go_enter Tryd.func30, Tryd.ntmps30
  go_wp2_with fail
  generalize w.alloc (.cells #[.string ⟨#[]⟩, .string ⟨#[]⟩, .string ⟨#[]⟩, .string ⟨#[]⟩] 9) = w1 at *
  have lt1 := hq.lt
  refine wp_loop_rounds 5 ?_
  change Code.rounds _ _ _ _ _ w1
  rw [rounds_succ]
  go_wp2_with fail
  rw [← c0]
  refine (itoaO_any _ hP1 a 0).mono ?_
  rintro e u0 ⟨rfl, hb⟩
  replace hq := hq.below hb hq.lt
  replace hP1 := hP1.below hb
  replace hB := hB.trans (hb.mono hB.size)
  clear hb
  have f0 := hq.frozen 0
  have z0 : u0.cell? ⟨w.heap.size, 0, none⟩ = some (.string ⟨#[]⟩) := hq.cellv 0 rfl
  replace lt1 := hq.lt
  go_upto_region 6 with (fail)
  obtain ⟨hq', hg⟩ := blk_store hq 0 (.string (strB (octD a 0)))
  replace hq' : Blk (u0.setCell ⟨w.heap.size, 0, none⟩ (.string (strB (octD a 0)))) w.heap.size 9 #[.string (strB (octD a 0)), .string ⟨#[]⟩, .string ⟨#[]⟩, .string ⟨#[]⟩] := hq'
  generalize u0.setCell ⟨w.heap.size, 0, none⟩ (.string (strB (octD a 0))) = v1 at *
  replace hB := below_own hB hg hB.size (Nat.le_refl _)
  replace hP1 := hP.below hB
  replace hq := hq'
  clear hg hq' f0 z0
  replace lt1 := hq.lt
  go_wp2_with fail
  rw [rounds_succ]
  go_wp2_with fail
  rw [← c1]
  refine (itoaO_any _ hP1 a 1).mono ?_
  rintro e u1 ⟨rfl, hb⟩
  replace hq := hq.below hb hq.lt
  replace hP1 := hP1.below hb
  replace hB := hB.trans (hb.mono hB.size)
  clear hb
  have f0 := hq.frozen 1
  have z0 : u1.cell? ⟨w.heap.size, 1, none⟩ = some (.string ⟨#[]⟩) := hq.cellv 1 rfl
  replace lt1 := hq.lt
  go_upto_region 6 with (fail)
  obtain ⟨hq', hg⟩ := blk_store hq 1 (.string (strB (octD a 1)))
  replace hq' : Blk (u1.setCell ⟨w.heap.size, 1, none⟩ (.string (strB (octD a 1)))) w.heap.size 9 #[.string (strB (octD a 0)), .string (strB (octD a 1)), .string ⟨#[]⟩, .string ⟨#[]⟩] := hq'
  generalize u1.setCell ⟨w.heap.size, 1, none⟩ (.string (strB (octD a 1))) = v2 at *
  replace hB := below_own hB hg hB.size (Nat.le_refl _)
  replace hP1 := hP.below hB
  replace hq := hq'
  clear hg hq' f0 z0
  replace lt1 := hq.lt
  go_wp2_with fail
  rw [rounds_succ]
  go_wp2_with fail
  rw [← c2]
  refine (itoaO_any _ hP1 a 2).mono ?_
  rintro e u2 ⟨rfl, hb⟩
  replace hq := hq.below hb hq.lt
  replace hP1 := hP1.below hb
  replace hB := hB.trans (hb.mono hB.size)
  clear hb
  have f0 := hq.frozen 2
  have z0 : u2.cell? ⟨w.heap.size, 2, none⟩ = some (.string ⟨#[]⟩) := hq.cellv 2 rfl
  replace lt1 := hq.lt
  go_upto_region 6 with (fail)
  obtain ⟨hq', hg⟩ := blk_store hq 2 (.string (strB (octD a 2)))
  replace hq' : Blk (u2.setCell ⟨w.heap.size, 2, none⟩ (.string (strB (octD a 2)))) w.heap.size 9 #[.string (strB (octD a 0)), .string (strB (octD a 1)), .string (strB (octD a 2)), .string ⟨#[]⟩] := hq'
  generalize u2.setCell ⟨w.heap.size, 2, none⟩ (.string (strB (octD a 2))) = v3 at *
  replace hB := below_own hB hg hB.size (Nat.le_refl _)
  replace hP1 := hP.below hB
  replace hq := hq'
  clear hg hq' f0 z0
  replace lt1 := hq.lt
  go_wp2_with fail
  rw [rounds_succ]
  go_wp2_with fail
  rw [← c3]
  refine (itoaO_any _ hP1 a 3).mono ?_
  rintro e u3 ⟨rfl, hb⟩
  replace hq := hq.below hb hq.lt
  replace hP1 := hP1.below hb
  replace hB := hB.trans (hb.mono hB.size)
  clear hb
  have f0 := hq.frozen 3
  have z0 : u3.cell? ⟨w.heap.size, 3, none⟩ = some (.string ⟨#[]⟩) := hq.cellv 3 rfl
  replace lt1 := hq.lt
  go_upto_region 6 with (fail)
  obtain ⟨hq', hg⟩ := blk_store hq 3 (.string (strB (octD a 3)))
  replace hq' : Blk (u3.setCell ⟨w.heap.size, 3, none⟩ (.string (strB (octD a 3)))) w.heap.size 9 #[.string (strB (octD a 0)), .string (strB (octD a 1)), .string (strB (octD a 2)), .string (strB (octD a 3))] := hq'
  generalize u3.setCell ⟨w.heap.size, 3, none⟩ (.string (strB (octD a 3))) = v4 at *
  replace hB := below_own hB hg hB.size (Nat.le_refl _)
  replace hP1 := hP.below hB
  replace hq := hq'
  clear hg hq' f0 z0
  replace lt1 := hq.lt
  go_wp2_with fail
  rw [rounds_succ]
  go_wp2_with fail
  refine (join_any v4 w.heap.size 4 [octD a 0, octD a 1, octD a 2, octD a 3] [46] ?_ lt1 (by simp) (by simp) (by have := addrL_len a; unfold addrL at this; omega)).mono ?_
  · intro j x hx
    match j, hx with
    | 0, hx => obtain rfl := Option.some.inj hx; exact hq.cellv 0 rfl
    | 1, hx => obtain rfl := Option.some.inj hx; exact hq.cellv 1 rfl
    | 2, hx => obtain rfl := Option.some.inj hx; exact hq.cellv 2 rfl
    | 3, hx => obtain rfl := Option.some.inj hx; exact hq.cellv 3 rfl
    | j + 4, hx => simp at hx
  rintro e w9 ⟨rfl, hb⟩
  go_wp2_with fail
  go_ret
  exact ⟨rfl, hB.trans (hb.mono hB.size)⟩
set_option maxRecDepth 100000 in
set_option maxHeartbeats 4000000 in
theorem refAddr_any (w : World) (a : Int) (h0 : 0 ≤ a) (h1 : a ≤ 4294967295) :
    Calls Tryd.prog 33 #[.int .u32 a] w fun e w' => e = .returned (.string (strB (addrL a))) ∧ w = w' := by
  have c0 : (octA a 0 : Int) = a / 16777216 := by unfold octA; simp; omega
  have c1 : (octA a 1 : Int) = a / 65536 % 256 := by unfold octA; simp; omega
  have c2 : (octA a 2 : Int) = a / 256 % 256 := by unfold octA; simp; omega
  have c3 : (octA a 3 : Int) = a % 256 := by unfold octA; simp; omega
  have d0 := refDigits_any (octA a 0) (by have := octA_lt a 0; omega)
  have d1 := refDigits_any (octA a 1) (by have := octA_lt a 1; omega)
  have d2 := refDigits_any (octA a 2) (by have := octA_lt a 2; omega)
  have d3 := refDigits_any (octA a 3) (by have := octA_lt a 3; omega)
  have z0 := octD_len a 0
  have z1 := octD_len a 1
  have z2 := octD_len a 2
  have z3 := octD_len a 3
  rw [addrL_eq]
  unfold octD at *
  rw [c0] at d0
  rw [c1] at d1
  rw [c2] at d2
  rw [c3] at d3
  clear c0 c1 c2 c3
  generalize Lib.decDigits (octA a 0) = L0 at *
  generalize Lib.decDigits (octA a 1) = L1 at *
  generalize Lib.decDigits (octA a 2) = L2 at *
  generalize Lib.decDigits (octA a 3) = L3 at *
  have r0 : catOk L0 [46] = true := catOk_of (by simp; omega)
  have r1 : catOk (L0 ++ [46]) L1 = true := catOk_of (by simp; omega)
  have r2 : catOk (L0 ++ 46 :: L1) [46] = true := catOk_of (by simp; omega)
  have r3 : catOk (L0 ++ 46 :: (L1 ++ [46])) L2 = true := catOk_of (by simp; omega)
  have r4 : catOk (L0 ++ 46 :: (L1 ++ 46 :: L2)) [46] = true := catOk_of (by simp; omega)
  have r5 : catOk (L0 ++ 46 :: (L1 ++ 46 :: (L2 ++ [46]))) L3 = true := catOk_of (by simp; omega)
  go_enter Tryd.func33, Tryd.ntmps33
  go_wp2_with fail
  refine (d0 w).mono ?_
  rintro e w2 ⟨rfl, rfl⟩
  go_wp2_with fail
  refine (d1 w).mono ?_
  rintro e w2 ⟨rfl, rfl⟩
  go_wp2_with fail
  refine (d2 w).mono ?_
  rintro e w2 ⟨rfl, rfl⟩
  go_wp2_with fail
  refine (d3 w).mono ?_
  rintro e w2 ⟨rfl, rfl⟩
  go_wp2_with fail
  go_ret
  exact ⟨rfl, rfl⟩
end Go.Proofs.YthbfnppgaaeilaaDoor
