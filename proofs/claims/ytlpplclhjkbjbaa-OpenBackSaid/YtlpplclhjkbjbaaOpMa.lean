/- open: the document's Parse, whole. -/
import Derived.Test.YtlpplclhjkbjbaaOpM
import Derived.Test.YtlpplclhjkbjbaaRowX
import Derived.Test.YtlpplclhjkbjbaaAtE
namespace Go.Proofs.Ytlpplclhjkbjbaa
set_option linter.unusedVariables false
open Go.RowKit

set_option maxRecDepth 100000 in
set_option maxHeartbeats 16000000 in
theorem refParse8_lt (w : World) (A : Option Addr) (n c : Nat) (l : List UInt8) (p : Int) (h : Byt w w.heap.size A n l) (hn : n ≤ 10000000) (hp : p < 1) :
    Calls Try.prog 42 #[.slice A n c, .int .i64 p] w fun e w' => Below w.heap.size w w' ∧ ParseP 129 w w' e (parseO l p) := by
  have hi : (Try.prog.info? 64).map (·.size) = some 4 := by kernel_rfl
  have hj : (Try.prog.info? 31).map (·.size) = some 3 := by kernel_rfl
  have hl := h.1
  have hB := (Below.refl w.heap.size w).alloc (Nat.le_refl _) (.cells zO 64)
  have hr4 := Blk.new w 64 zO
  replace hB := hB.alloc hB.size (.cells zF 31)
  replace hr4 := hr4.alloc (.cells zF 31)
  have hr5 : Blk ((w.alloc (.cells zO 64)).alloc (.cells zF 31)) (w.heap.size + 1) 31 zF := by
    have := Blk.new (w.alloc (.cells zO 64)) 31 zF
    simpa using this
  have hI := (h.below hB).more hB.size
  have hz2 : ((w.alloc (.cells zO 64)).alloc (.cells zF 31)).heap.size = w.heap.size + 2 := by simp
  unfold zO at hr4 hB hr5 hI hz2
  unfold zF at hr4 hB hr5 hI hz2
  clear h
  go_enter Try.func42, Try.ntmps42
  generalize hw2 : ((w.alloc (.cells #[.int .i64 0, .int .i64 0, .int .u32 0, .slice none 0 0] 64)).alloc (.cells #[.int .i64 0, .int .i64 0, .slice none 0 0] 31)) = w2 at *
  by_cases hs : n < 10
  · have d1 : (n : Int) < 10 := by omega
    have spec : parseO l p = .error (0, []) := if_pos (by rw [hl]; exact hs)
    replace spec := Lib.hid spec
    replace hl := Lib.hid hl
    have hz22 := hB.size
    have own := OwnB.nil w2 (w.heap.size + 2)
    go_wp2_with (first | (refine wpList_store_blk rfl hr4 64 (.tmp 4) (.tmp 15) rfl rfl rfl rfl hi (by simp [Value.oneCell']) ?_; intro wy hr6 hg6; replace own := own.kept hg6 (ownB_apart own (by omega)); replace hr5 := hr5.grown hg6 (by intro e; injection e with e; omega); replace hB := below_own hB hg6 hB.size (by omega)) | (refine wpList_store_blk rfl hr5 31 (.tmp 5) (.tmp 16) rfl rfl rfl rfl hj (by simp [Value.oneCell']) ?_; intro wz hr7 hg7; replace own := own.kept hg7 (ownB_apart own (by omega))))
    try rw [Exit.noGoto_ret]
    refine bodyPost_ret (results_cc rfl _ rfl rfl (load_blk (hr6.grown hg7 (by intro e; injection e with e; omega)) Try.underlying64 rfl hi) (load_blk hr7 Try.underlying31 rfl hj)) rfl ?_
    refine ⟨below_own hB hg7 hB.size (by omega), ?_⟩
    rw [spec.out]
    exact ⟨_, rfl, ownB_less own (by omega)⟩
  have d1 : (10 : Int) ≤ n := by omega
  obtain ⟨he5, hl5⟩ := poS5_e l (by omega)
  have sp0 : parseO l p = if poV l ≠ 4 then .error (1, [0, 4]) else if poA l = 0 ∨ (1 ≤ p ∧ poA l ≠ p) then .error (2, [])
      else if holdB (poH l) = false then .error (6, []) else if poI l = 0 then .error (3, []) else if poN l ≠ leftV (poS5 l) then .error (0, [])
      else match parS (poS5 l) with
      | .error x => .error (x, [])
      | .ok ds => .ok (poA l, poH l, poI l, ds) := if_neg (by omega)
  have hlim : (poS5 l).l.length ≤ 10000000 := by omega
  replace sp0 := Lib.hid sp0
  replace he5 := Lib.hid he5
  replace hlim := Lib.hid hlim
  replace hl := Lib.hid hl
  clear hl5
  go_wp2_with fail
  refine (refRead_any w2 A n c l _ hI (Nat.le_refl _) (by omega)).mono ?_
  rintro e w3 ⟨g, rfl, hg, hsrc, hb⟩
  replace hr4 := hr4.below hb hr4.lt
  replace hr5 := hr5.below hb hr5.lt
  replace hB := hB.trans (hb.mono hB.size)
  have hlo : w.heap.size + 2 ≤ w2.heap.size := by omega
  generalize w2.heap.size = lo at *
  replace hsrc : Ref w3 lo g (poS l) := hsrc
  have hg2 : w.heap.size + 2 ≤ g := by omega
  clear hb hI hg hz2
  go_wp2_with fail
  refine (refU8_any w3 lo g (poS l) hsrc).mono ?_
  rintro e w4 ⟨rfl, hsrc1, hg4⟩
  replace hsrc1 : Ref w4 lo g (poS1 l) := hsrc1
  have eV : numV (poS l) 1 = poV l := rfl
  rw [eV]
  clear hsrc eV
  replace hr4 := hr4.grown hg4 (by intro e; injection e with e; omega)
  replace hr5 := hr5.grown hg4 (by intro e; injection e with e; omega)
  replace hB := below_own hB hg4 hB.size (by omega)
  clear hg4
  by_cases hv : poV l = 4
  rotate_left
  · have b1 : (poV l != 4) = true := by simpa using hv
    have spec : parseO l p = .error (1, [0, 4]) := by rw [sp0.out, if_pos hv]
    replace spec := Lib.hid spec
    replace hv := Lib.hid hv
    have hz4 := hB.size
    have own := OwnB.lit (base := w.heap.size + 2) w4 [0, 4] (by have := hsrc1.lt; omega) (by decide)
    have hba := (Below.refl w4.heap.size w4).alloc (Nat.le_refl _) (.cells (byCells [0, 4]) 5)
    rw [show byCells [0, 4] = #[.int .u8 0, .int .u8 4] from rfl] at own hba
    replace hr4 := hr4.below hba hr4.lt
    replace hr5 := hr5.below hba hr5.lt
    replace hB := hB.trans (hba.mono hB.size)
    replace own : OwnB (w4.alloc (.cells #[.int .u8 0, .int .u8 4] 5)) (w.heap.size + 2) (.slice (some ⟨w4.heap.size, 0, none⟩) 2 2) 2 [0, 4] := own
    clear hba hsrc1
    generalize hx4 : w4.alloc (.cells #[.int .u8 0, .int .u8 4] 5) = x4 at *
    go_wp2_with (first | (refine wpList_store_blk rfl hr4 64 (.tmp 4) (.tmp 22) rfl rfl rfl rfl hi (by simp [Value.oneCell']) ?_; intro wy hr6 hg6; replace own := own.kept hg6 (ownB_apart own (by omega)); replace hr5 := hr5.grown hg6 (by intro e; injection e with e; omega); replace hB := below_own hB hg6 hB.size (by omega)) | (refine wpList_store_blk rfl hr5 31 (.tmp 5) (.tmp 24) rfl rfl rfl rfl hj (by simp [Value.oneCell']) ?_; intro wz hr7 hg7; replace own := own.kept hg7 (ownB_apart own (by omega))))
    try rw [Exit.noGoto_ret]
    refine bodyPost_ret (results_cc rfl _ rfl rfl (load_blk (hr6.grown hg7 (by intro e; injection e with e; omega)) Try.underlying64 rfl hi) (load_blk hr7 Try.underlying31 rfl hj)) rfl ?_
    refine ⟨below_own hB hg7 hB.size (by omega), ?_⟩
    rw [spec.out]
    exact ⟨_, rfl, ownB_less own (by omega)⟩
  have b1 : (poV l != 4) = false := by simpa using hv
  have sp1 := Lib.hid (sp0.out.trans (if_neg (by simpa using hv)))
  replace hv := Lib.hid hv
  clear sp0
  go_wp2_with fail
  refine (refU16_any w4 lo g (poS1 l) hsrc1).mono ?_
  rintro e w5 ⟨rfl, hsrc2, hg4⟩
  replace hsrc2 : Ref w5 lo g (poS2 l) := hsrc2
  have eV : numV (poS1 l) 2 = poA l := rfl
  rw [eV]
  clear eV hsrc1
  replace hr4 := hr4.grown hg4 (by intro e; injection e with e; omega)
  replace hr5 := hr5.grown hg4 (by intro e; injection e with e; omega)
  replace hB := below_own hB hg4 hB.size (by omega)
  clear hg4
  have hlt5 := hsrc2.lt
  have hba := (Below.refl w5.heap.size w5).alloc (Nat.le_refl _) (.cells #[.int .i64 (poA l), .int .i64 0, .int .u32 0, .slice none 0 0] 64)
  have hq := Blk.new w5 64 #[.int .i64 (poA l), .int .i64 0, .int .u32 0, .slice none 0 0]
  replace hr4 := hr4.below hba hr4.lt
  replace hr5 := hr5.below hba hr5.lt
  replace hB := hB.trans (hba.mono hB.size)
  replace hsrc2 := hsrc2.below hba hlt5
  clear hba
  go_wp2_with fail
  generalize w5.alloc (.cells #[.int .i64 (poA l), .int .i64 0, .int .u32 0, .slice none 0 0] 64) = x5 at *
  generalize w5.heap.size = gq at *
  refine (refU16_any x5 lo g (poS2 l) hsrc2).mono ?_
  rintro e w6 ⟨rfl, hsrc3, hg4⟩
  replace hsrc3 : Ref w6 lo g (poS3 l) := hsrc3
  have eV : numV (poS2 l) 2 = poH l := rfl
  rw [eV]
  replace hq := hq.grown hg4 (by intro e; injection e with e; omega)
  clear eV hsrc2
  replace hr4 := hr4.grown hg4 (by intro e; injection e with e; omega)
  replace hr5 := hr5.grown hg4 (by intro e; injection e with e; omega)
  replace hB := below_own hB hg4 hB.size (by omega)
  clear hg4
  have cc : w6.cell? ⟨gq, 1, none⟩ = some (.int .i64 0) := hq.cellv 1 rfl
  have fz := hq.frozen 1
  have ltq := hq.lt
  obtain ⟨hq2, hgs⟩ := blk_store hq 1 (.int .i64 (poH l))
  replace hq2 : Blk (w6.setCell ⟨gq, 1, none⟩ (.int .i64 (poH l))) gq 64 #[.int .i64 (poA l), .int .i64 (poH l), .int .u32 0, .slice none 0 0] := hq2
  replace hsrc3 := hsrc3.grown_up hgs (by omega)
  replace hr4 := hr4.grown hgs (by intro e; injection e with e; omega)
  replace hr5 := hr5.grown hgs (by intro e; injection e with e; omega)
  replace hB := below_own hB hgs hB.size (by omega)
  clear hq hgs
  generalize hws : w6.setCell ⟨gq, 1, none⟩ (.int .i64 (poH l)) = x6 at *
  have hq := hq2
  clear hq2
  go_wp2_with fail
  clear hws cc fz
  refine (refU32_any x6 lo g (poS3 l) hsrc3).mono ?_
  rintro e w7 ⟨rfl, hsrc4, hg4⟩
  replace hsrc4 : Ref w7 lo g (poS4 l) := hsrc4
  have eV : numV (poS3 l) 4 = poI l := rfl
  rw [eV]
  replace hq := hq.grown hg4 (by intro e; injection e with e; omega)
  clear eV hsrc3
  replace hr4 := hr4.grown hg4 (by intro e; injection e with e; omega)
  replace hr5 := hr5.grown hg4 (by intro e; injection e with e; omega)
  replace hB := below_own hB hg4 hB.size (by omega)
  clear hg4
  have cc : w7.cell? ⟨gq, 2, none⟩ = some (.int .u32 0) := hq.cellv 2 rfl
  have fz := hq.frozen 2
  have ltq := hq.lt
  obtain ⟨hq2, hgs⟩ := blk_store hq 2 (.int .u32 (poI l))
  replace hq2 : Blk (w7.setCell ⟨gq, 2, none⟩ (.int .u32 (poI l))) gq 64 #[.int .i64 (poA l), .int .i64 (poH l), .int .u32 (poI l), .slice none 0 0] := hq2
  replace hsrc4 := hsrc4.grown_up hgs (by omega)
  replace hr4 := hr4.grown hgs (by intro e; injection e with e; omega)
  replace hr5 := hr5.grown hgs (by intro e; injection e with e; omega)
  replace hB := below_own hB hgs hB.size (by omega)
  clear hq hgs
  generalize hws : w7.setCell ⟨gq, 2, none⟩ (.int .u32 (poI l)) = x7 at *
  have hq := hq2
  clear hq2
  go_wp2_with fail
  clear hws cc fz
  refine (refU8_any x7 lo g (poS4 l) hsrc4).mono ?_
  rintro e w8 ⟨rfl, hsrc5, hg4⟩
  replace hsrc5 : Ref w8 lo g (poS5 l) := hsrc5
  have eV : numV (poS4 l) 1 = poN l := rfl
  rw [eV]
  replace hq := hq.grown hg4 (by intro e; injection e with e; omega)
  clear eV hsrc4
  replace hr4 := hr4.grown hg4 (by intro e; injection e with e; omega)
  replace hr5 := hr5.grown hg4 (by intro e; injection e with e; omega)
  replace hB := below_own hB hg4 hB.size (by omega)
  clear hg4
  replace ltq := hq.lt
  have q0 : w8.cell? ⟨gq, 0, none⟩ = some (.int .i64 (poA l)) := hq.cellv 0 rfl
  have q1 : w8.cell? ⟨gq, 1, none⟩ = some (.int .i64 (poH l)) := hq.cellv 1 rfl
  have q2 : w8.cell? ⟨gq, 2, none⟩ = some (.int .u32 (poI l)) := hq.cellv 2 rfl
  have hz8 := hB.size
  by_cases ha : poA l = 0
  · have b2 : (poA l == 0) = true := by simpa using ha
    have spec := Lib.hid (sp1.out.trans (if_pos (.inl ha)))
    replace ha := Lib.hid ha
    have own := OwnB.nil w8 (w.heap.size + 2)
    go_wp2_with (first | (refine wpList_store_blk rfl hr4 64 (.tmp 4) (.tmp 50) rfl rfl rfl rfl hi (by simp [Value.oneCell']) ?_; intro wy hr6 hg6; replace own := own.kept hg6 (ownB_apart own (by omega)); replace hr5 := hr5.grown hg6 (by intro e; injection e with e; omega); replace hB := below_own hB hg6 hB.size (by omega)) | (refine wpList_store_blk rfl hr5 31 (.tmp 5) (.tmp 51) rfl rfl rfl rfl hj (by simp [Value.oneCell']) ?_; intro wz hr7 hg7; replace own := own.kept hg7 (ownB_apart own (by omega))))
    try rw [Exit.noGoto_ret]
    refine bodyPost_ret (results_cc rfl _ rfl rfl (load_blk (hr6.grown hg7 (by intro e; injection e with e; omega)) Try.underlying64 rfl hi) (load_blk hr7 Try.underlying31 rfl hj)) rfl ?_
    refine ⟨below_own hB hg7 hB.size (by omega), ?_⟩
    rw [spec.out]
    exact ⟨_, rfl, ownB_less own (by omega)⟩
  have b2 : (poA l == 0) = false := by simpa using ha
  have sp2 := Lib.hid (sp1.out.trans (if_neg (by omega)))
  replace ha := Lib.hid ha
  clear sp1
  have d2 : decide (1 ≤ p) = false := by simpa using hp
  replace hp := Lib.hid hp
  have hh0 : 0 ≤ poH l := numV_lo _ _
  have hh1 := poH_hi l
  have hbad := hold_bad (poH l) hh0 hh1
  by_cases e1 : poH l = 1
  · have b4 : (poH l == 1) = true := by simpa using e1
    have spec := Lib.hid (sp2.out.trans (if_pos (hbad.2 (.inl e1))))
    replace e1 := Lib.hid e1
    replace hbad := Lib.hid hbad
    have own := OwnB.nil w8 (w.heap.size + 2)
    go_wp2_with (first | (refine wpList_store_blk rfl hr4 64 (.tmp 4) (.tmp 61) rfl rfl rfl rfl hi (by simp [Value.oneCell']) ?_; intro wy hr6 hg6; replace own := own.kept hg6 (ownB_apart own (by omega)); replace hr5 := hr5.grown hg6 (by intro e; injection e with e; omega); replace hB := below_own hB hg6 hB.size (by omega)) | (refine wpList_store_blk rfl hr5 31 (.tmp 5) (.tmp 62) rfl rfl rfl rfl hj (by simp [Value.oneCell']) ?_; intro wz hr7 hg7; replace own := own.kept hg7 (ownB_apart own (by omega))))
    try rw [Exit.noGoto_ret]
    refine bodyPost_ret (results_cc rfl _ rfl rfl (load_blk (hr6.grown hg7 (by intro e; injection e with e; omega)) Try.underlying64 rfl hi) (load_blk hr7 Try.underlying31 rfl hj)) rfl ?_
    refine ⟨below_own hB hg7 hB.size (by omega), ?_⟩
    rw [spec.out]
    exact ⟨_, rfl, ownB_less own (by omega)⟩
  have b4 : (poH l == 1) = false := by simpa using e1
  by_cases e2 : poH l = 2
  · have b5 : (poH l == 2) = true := by simpa using e2
    have spec := Lib.hid (sp2.out.trans (if_pos (hbad.2 (.inr e2))))
    replace e1 := Lib.hid e1
    replace e2 := Lib.hid e2
    replace hbad := Lib.hid hbad
    have own := OwnB.nil w8 (w.heap.size + 2)
    go_wp2_with (first | (refine wpList_store_blk rfl hr4 64 (.tmp 4) (.tmp 61) rfl rfl rfl rfl hi (by simp [Value.oneCell']) ?_; intro wy hr6 hg6; replace own := own.kept hg6 (ownB_apart own (by omega)); replace hr5 := hr5.grown hg6 (by intro e; injection e with e; omega); replace hB := below_own hB hg6 hB.size (by omega)) | (refine wpList_store_blk rfl hr5 31 (.tmp 5) (.tmp 62) rfl rfl rfl rfl hj (by simp [Value.oneCell']) ?_; intro wz hr7 hg7; replace own := own.kept hg7 (ownB_apart own (by omega))))
    try rw [Exit.noGoto_ret]
    refine bodyPost_ret (results_cc rfl _ rfl rfl (load_blk (hr6.grown hg7 (by intro e; injection e with e; omega)) Try.underlying64 rfl hi) (load_blk hr7 Try.underlying31 rfl hj)) rfl ?_
    refine ⟨below_own hB hg7 hB.size (by omega), ?_⟩
    rw [spec.out]
    exact ⟨_, rfl, ownB_less own (by omega)⟩
  have b5 : (poH l == 2) = false := by simpa using e2
  have sp3 := Lib.hid (sp2.out.trans (if_neg (by intro h; rcases hbad.1 h with h | h; exact e1 h; exact e2 h)))
  clear hbad sp2 hh0 hh1
  replace e1 := Lib.hid e1
  replace e2 := Lib.hid e2
  by_cases hid : poI l = 0
  · have b6 : (poI l == 0) = true := by simpa using hid
    have spec := Lib.hid (sp3.out.trans (if_pos hid))
    replace hid := Lib.hid hid
    have own := OwnB.nil w8 (w.heap.size + 2)
    go_wp2_with (first | (refine wpList_store_blk rfl hr4 64 (.tmp 4) (.tmp 67) rfl rfl rfl rfl hi (by simp [Value.oneCell']) ?_; intro wy hr6 hg6; replace own := own.kept hg6 (ownB_apart own (by omega)); replace hr5 := hr5.grown hg6 (by intro e; injection e with e; omega); replace hB := below_own hB hg6 hB.size (by omega)) | (refine wpList_store_blk rfl hr5 31 (.tmp 5) (.tmp 68) rfl rfl rfl rfl hj (by simp [Value.oneCell']) ?_; intro wz hr7 hg7; replace own := own.kept hg7 (ownB_apart own (by omega))))
    try rw [Exit.noGoto_ret]
    refine bodyPost_ret (results_cc rfl _ rfl rfl (load_blk (hr6.grown hg7 (by intro e; injection e with e; omega)) Try.underlying64 rfl hi) (load_blk hr7 Try.underlying31 rfl hj)) rfl ?_
    refine ⟨below_own hB hg7 hB.size (by omega), ?_⟩
    rw [spec.out]
    exact ⟨_, rfl, ownB_less own (by omega)⟩
  have b6 : (poI l == 0) = false := by simpa using hid
  have sp4 := Lib.hid (sp3.out.trans (if_neg hid))
  replace hid := Lib.hid hid
  clear sp3
  go_wp2_with fail
  refine (refLeft_any w8 lo g (poS5 l) hsrc5).mono ?_
  rintro e w9 ⟨kk, rfl, hdr⟩
  have hb2 : Below w8.heap.size w8 w9 := by rw [hdr]; exact below_drewN (Below.refl _ _) kk
  replace hsrc5 := hsrc5.below hb2 hsrc5.lt
  replace hq := hq.below hb2 hq.lt
  replace hr4 := hr4.below hb2 hr4.lt
  replace hr5 := hr5.below hb2 hr5.lt
  replace hB := hB.trans (hb2.mono hz8)
  clear hdr hb2 q0 q1 q2
  have hz9 := hB.size
  by_cases hN : poN l = leftV (poS5 l)
  rotate_left
  · have b7 : (poN l != leftV (poS5 l)) = true := by simpa using hN
    have spec := Lib.hid (sp4.out.trans (if_pos hN))
    replace hN := Lib.hid hN
    have own := OwnB.nil w9 (w.heap.size + 2)
    go_wp2_with (first | (refine wpList_store_blk rfl hr4 64 (.tmp 4) (.tmp 74) rfl rfl rfl rfl hi (by simp [Value.oneCell']) ?_; intro wy hr6 hg6; replace own := own.kept hg6 (ownB_apart own (by omega)); replace hr5 := hr5.grown hg6 (by intro e; injection e with e; omega); replace hB := below_own hB hg6 hB.size (by omega)) | (refine wpList_store_blk rfl hr5 31 (.tmp 5) (.tmp 75) rfl rfl rfl rfl hj (by simp [Value.oneCell']) ?_; intro wz hr7 hg7; replace own := own.kept hg7 (ownB_apart own (by omega))))
    try rw [Exit.noGoto_ret]
    refine bodyPost_ret (results_cc rfl _ rfl rfl (load_blk (hr6.grown hg7 (by intro e; injection e with e; omega)) Try.underlying64 rfl hi) (load_blk hr7 Try.underlying31 rfl hj)) rfl ?_
    refine ⟨below_own hB hg7 hB.size (by omega), ?_⟩
    rw [spec.out]
    exact ⟨_, rfl, ownB_less own (by omega)⟩
  have b7 : (poN l != leftV (poS5 l)) = false := by simpa using hN
  have sp5 := Lib.hid (sp4.out.trans (if_neg (by simpa using hN)))
  replace hN := Lib.hid hN
  clear sp4
  go_wp2_with fail
  have hrow := RowsX.nil (R := capK) w9 (fun b => gq < b) (gq + 1) 129
  generalize poS5 l = s0 at *
  go_loopw [9, 10, 11] (fun _ _ _ wr => ∃ (s : St) (v : Value) (rs : List CapV), Ref wr lo g s ∧ s.e = 0 ∧ s.l.length + rs.length ≤ 10000000 ∧ Blk wr gq 64 #[.int .i64 (poA l), .int .i64 (poH l), .int .u32 (poI l), v] ∧ RowsX capK wr (fun b => gq < b) (gq + 1) 129 v rs ∧ Blk wr w.heap.size 64 #[.int .i64 0, .int .i64 0, .int .u32 0, .slice none 0 0] ∧ Blk wr (w.heap.size + 1) 31 #[.int .i64 0, .int .i64 0, .slice none 0 0] ∧ Below w.heap.size w wr ∧ parS s0 = (parS s).map (rs.map capKey ++ ·)) (fun _ _ _ wr => refLen wr g)
  case atStart => exact ⟨s0, _, [], hsrc5, he5.out, by simpa using hlim.out, hq, hrow, hr4, hr5, hB, by cases parS s0 <;> rfl⟩
  case round =>
  clear hsrc5 hq hrow hr4 hr5 hB he5 hlim ltq hz8 hz9
  obtain ⟨s, v, rs, hsrc, hse, hlr, hq, hrow, hr4, hr5, hB, hsp⟩ := hrel
  have hln := Lib.hid hsrc.refLen
  replace hsp := Lib.hid hsp
  go_wp2_with fail
  refine (refLeft_any wr lo g s hsrc).mono ?_
  rintro e w2 ⟨kk, rfl, hdr⟩
  have hb2 : Below wr.heap.size wr w2 := by rw [hdr]; exact below_drewN (Below.refl _ _) kk
  replace hsrc := hsrc.below hb2 hsrc.lt
  replace hrow := hrow.below hb2
  replace hq := hq.below hb2 hq.lt
  replace hr4 := hr4.below hb2 hr4.lt
  replace hr5 := hr5.below hb2 hr5.lt
  replace hB := hB.trans (hb2.mono hB.size)
  clear hdr hb2
  obtain ⟨A0, q0, rfl⟩ := hrow.any
  have ltq := hq.lt
  have hz2 := hB.size
  by_cases hl : 0 < leftV s
  rotate_left
  · have hl2 : leftV s ≤ 0 := by omega
    have hend := parS_end (s := s) (by omega)
    have spec : Hid (parseO l p = .ok (poA l, poH l, poI l, rs.map capKey)) := Lib.hid (by rw [sp5.out, hsp.out, hend, map_ok, List.append_nil])
    replace hend := Lib.hid hend
    have c0 : w2.cell? ⟨gq, 0, none⟩ = some (.int .i64 (poA l)) := hq.cellv 0 rfl
    have c1 : w2.cell? ⟨gq, 1, none⟩ = some (.int .i64 (poH l)) := hq.cellv 1 rfl
    have c2 : w2.cell? ⟨gq, 2, none⟩ = some (.int .u32 (poI l)) := hq.cellv 2 rfl
    have c3 : w2.cell? ⟨gq, 3, none⟩ = some (.slice A0 rs.length q0) := hq.cellv 3 rfl
    replace hrow := (hrow.rows (lo := gq + 1) fun b hb => hb)
    go_wp2_with (first | (refine wpList_store_blk rfl hr4 64 (.tmp 4) (.tmp 120) rfl rfl rfl rfl hi (by simp [Value.oneCell']) ?_; intro wy hr6 hg6; replace hrow := hrow.kept hg6 (fun k e => by cases e; omega) (Nat.le_refl _); replace hr5 := hr5.grown hg6 (by intro e; injection e with e; omega); replace hB := below_own hB hg6 hB.size (by omega)) | (refine wpList_store_blk rfl hr5 31 (.tmp 5) (.tmp 121) rfl rfl rfl rfl hj (by simp [Value.oneCell']) ?_; intro wz hr7 hg7; replace hrow := hrow.kept hg7 (fun k e => by cases e; omega) (Nat.le_refl _)))
    try rw [Exit.noGoto_ret]
    refine bodyPost_ret (results_cc rfl _ rfl rfl (load_blk (hr6.grown hg7 (by intro e; injection e with e; omega)) Try.underlying64 rfl hi) (load_blk hr7 Try.underlying31 rfl hj)) rfl ?_
    refine ⟨below_own hB hg7 hB.size (by omega), ?_⟩
    rw [spec.out]
    exact ⟨_, rs, rfl, hrow.less (by omega) (by omega), rfl⟩
  have hse := left_ok hl
  clear hz2
  go_wp2_with fail
  refine (refU8_any w2 lo g s hsrc).mono ?_
  rintro e w3 ⟨rfl, hsrc1, hg3⟩
  have eT : numV s 1 = cpT s := rfl
  have eS1 : (tk s 1).1 = cpS1 s := rfl
  rw [eT]
  rw [eS1] at hsrc1
  replace hq := hq.grown hg3 (by intro e; injection e with e; omega)
  replace hrow := hrow.kept hg3 (fun b hb => by omega) (fun e => by have := (hrow.own _ e).1; omega)
  replace hr4 := hr4.grown hg3 (by intro e; injection e with e; omega)
  replace hr5 := hr5.grown hg3 (by intro e; injection e with e; omega)
  replace hB := below_own hB hg3 hB.size (by omega)
  clear hg3
  clear eT eS1 hsrc
  go_wp2_with fail
  refine (refU8_any w3 lo g (cpS1 s) hsrc1).mono ?_
  rintro e w4 ⟨rfl, hsrc2, hg4⟩
  have eN : numV (cpS1 s) 1 = cpN s := rfl
  have eS2 : (tk (cpS1 s) 1).1 = cpS2 s := rfl
  rw [eN]
  rw [eS2] at hsrc2
  replace hq := hq.grown hg4 (by intro e; injection e with e; omega)
  replace hrow := hrow.kept hg4 (fun b hb => by omega) (fun e => by have := (hrow.own _ e).1; omega)
  replace hr4 := hr4.grown hg4 (by intro e; injection e with e; omega)
  replace hr5 := hr5.grown hg4 (by intro e; injection e with e; omega)
  replace hB := below_own hB hg4 hB.size (by omega)
  clear hg4
  clear eN eS2 hsrc1
  go_wp2_with fail
  refine (refSub_any w4 lo g (cpS2 s) hsrc2 (cpN s)).mono ?_
  rintro e w5 ⟨g2, lo2, rfl, hlo2, hg2z, hin, hsrc3, hg5⟩
  have eV : (tk (cpS2 s) (cpN s)).2 = cpV s := rfl
  have eS : (tk (cpS2 s) (cpN s)).1 = cpS3 s := rfl
  rw [eV] at hin
  rw [eS] at hsrc3
  have hown4 := hrow.own
  have ltq4 := hq.lt
  replace hrow := hrow.more (Y := fun b => gq < b ∧ b ≠ g2) (fun b hb hlt => ⟨hb, by omega⟩)
  have hown : ∀ k, (Value.slice A0 rs.length q0).ownBlock = some k → k < w4.heap.size ∨ g2 < k := fun k e => .inl (hown4 k e).2
  clear hown4
  replace hq := hq.grown hg5 (by intro e; injection e with e; omega)
  replace hrow := hrow.kept hg5 (fun b hb => by omega) (fun e => by have := (hrow.own _ e).1; omega)
  replace hr4 := hr4.grown hg5 (by intro e; injection e with e; omega)
  replace hr5 := hr5.grown hg5 (by intro e; injection e with e; omega)
  replace hB := below_own hB hg5 hB.size (by omega)
  clear hg5
  clear eV eS hsrc2
  generalize w4.heap.size = z4 at *
  have hEc := hsrc3.err
  have ltE := hsrc3.lt
  by_cases hE : (cpS3 s).e = 0
  rotate_left
  · have hne : ((cpS3 s).e != 0) = true := by simpa using hE
    have spec : Hid (parseO l p = .error (0, [])) := Lib.hid (by rw [sp5.out, hsp.out, parS_short hl hE]; rfl)
    replace hE := Lib.hid hE
    have own := OwnB.nil w5 (w.heap.size + 2)
    go_wp2_with (first | (refine wpList_store_blk rfl hr4 64 (.tmp 4) (.tmp 90) rfl rfl rfl rfl hi (by simp [Value.oneCell']) ?_; intro wy hr6 hg6; replace own := own.kept hg6 (ownB_apart own (by omega)); replace hr5 := hr5.grown hg6 (by intro e; injection e with e; omega); replace hB := below_own hB hg6 hB.size (by omega)) | (refine wpList_store_blk rfl hr5 31 (.tmp 5) (.tmp 91) rfl rfl rfl rfl hj (by simp [Value.oneCell']) ?_; intro wz hr7 hg7; replace own := own.kept hg7 (ownB_apart own (by omega))))
    try rw [Exit.noGoto_ret]
    refine bodyPost_ret (results_cc rfl _ rfl rfl (load_blk (hr6.grown hg7 (by intro e; injection e with e; omega)) Try.underlying64 rfl hi) (load_blk hr7 Try.underlying31 rfl hj)) rfl ?_
    refine ⟨below_own hB hg7 hB.size (by omega), ?_⟩
    rw [spec.out]
    exact ⟨_, rfl, ownB_less own (by omega)⟩
  rw [hE] at hEc
  replace hE := Lib.hid hE
  by_cases hk : cpT s = 2
  rotate_left
  · have hne : (cpT s != 2) = true := by simpa using hk
    have spec : Hid (parseO l p = .error (4, [])) := Lib.hid (by rw [sp5.out, hsp.out, parS_kind hl hE.out hk]; rfl)
    replace hk := Lib.hid hk
    have own := OwnB.nil w5 (w.heap.size + 2)
    go_wp2_with (first | (refine wpList_store_blk rfl hr4 64 (.tmp 4) (.tmp 94) rfl rfl rfl rfl hi (by simp [Value.oneCell']) ?_; intro wy hr6 hg6; replace own := own.kept hg6 (ownB_apart own (by omega)); replace hr5 := hr5.grown hg6 (by intro e; injection e with e; omega); replace hB := below_own hB hg6 hB.size (by omega)) | (refine wpList_store_blk rfl hr5 31 (.tmp 5) (.tmp 95) rfl rfl rfl rfl hj (by simp [Value.oneCell']) ?_; intro wz hr7 hg7; replace own := own.kept hg7 (ownB_apart own (by omega))))
    try rw [Exit.noGoto_ret]
    refine bodyPost_ret (results_cc rfl _ rfl rfl (load_blk (hr6.grown hg7 (by intro e; injection e with e; omega)) Try.underlying64 rfl hi) (load_blk hr7 Try.underlying31 rfl hj)) rfl ?_
    refine ⟨below_own hB hg7 hB.size (by omega), ?_⟩
    rw [spec.out]
    exact ⟨_, rfl, ownB_less own (by omega)⟩
  have hne : (cpT s != 2) = false := by simpa using hk
  replace hk := Lib.hid hk
  go_wp2_with fail
  have hbo := cp_both s
  have hlen0 : (⟨cpV s, 0, 0⟩ : St).l.length = (cpV s).length := rfl
  obtain ⟨si0, hsi0⟩ : ∃ si0 : St, si0 = ⟨cpV s, 0, 0⟩ := ⟨_, rfl⟩
  rw [← hsi0] at hin hlen0
  have hsi0e : si0.e = 0 := by rw [hsi0]
  replace hsi0 := Lib.hid hsi0
  clear hEc ltE hne
  go_loopw [11] (fun _ wr => ∃ (si : St) (v2 : Value) (rt rs2 : List CapV), Ref wr lo2 g2 si ∧ si.e = 0 ∧ si.l.length + rs2.length ≤ (cpV s).length ∧ Ref wr lo g (cpS3 s) ∧ Blk wr gq 64 #[.int .i64 (poA l), .int .i64 (poH l), .int .u32 (poI l), v2] ∧ RowsX capK wr (fun b => gq < b ∧ b ≠ g2) (gq + 1) 129 v2 rt ∧ rt = rs ++ rs2 ∧ (∀ k, v2.ownBlock = some k → k < z4 ∨ g2 < k) ∧ Blk wr w.heap.size 64 #[.int .i64 0, .int .i64 0, .int .u32 0, .slice none 0 0] ∧ Blk wr (w.heap.size + 1) 31 #[.int .i64 0, .int .i64 0, .slice none 0 0] ∧ Below w.heap.size w wr ∧ capsS si0 = (capsS si).map (rs2.map capKey ++ ·)) (fun _ wr => refLen wr g2)
  case atStart => exact ⟨si0, _, rs, [], hin, hsi0e, by simp [hlen0], hsrc3, hq, hrow, by simp, hown, hr4, hr5, hB, by cases capsS si0 <;> rfl⟩
  case round =>
  clear hin hsi0e hlen0 hsrc3 hq hrow hown hr4 hr5 hB ltq
  obtain ⟨si, v2, rt, rs2, hin, hie, hil, hsrc3, hq, hrow, hrt, hown, hr4, hr5, hB, hcs⟩ := hrel
  have hln2 := Lib.hid hin.refLen
  have hrtl : rt.length = rs.length + rs2.length := by rw [hrt, List.length_append]
  have hrt63 : rt.length ≤ 10000000 := by omega
  replace hcs := Lib.hid hcs
  replace hrt := Lib.hid hrt
  replace hrtl := Lib.hid hrtl
  go_wp2_with fail
  refine (refLeft_any wr lo2 g2 si hin).mono ?_
  rintro e w6 ⟨kk, rfl, hdr⟩
  have hb6 : Below wr.heap.size wr w6 := by rw [hdr]; exact below_drewN (Below.refl _ _) kk
  replace hin := hin.below hb6 hin.lt
  replace hsrc3 := hsrc3.below hb6 hsrc3.lt
  replace hrow := hrow.below hb6
  replace hq := hq.below hb6 hq.lt
  replace hr4 := hr4.below hb6 hr4.lt
  replace hr5 := hr5.below hb6 hr5.lt
  replace hB := hB.trans (hb6.mono hB.size)
  clear hdr hb6
  obtain ⟨A2, c2, rfl⟩ := hrow.any
  have hgg : g < g2 := by omega
  by_cases hl2 : 0 < leftV si
  rotate_left
  · have hl3 : leftV si ≤ 0 := by omega
    have hend : capsS si = some [] := seqL_end (by omega)
    have hcs0 : capsS ⟨cpV s, 0, 0⟩ = some (rs2.map capKey) := by rw [← hsi0.out, hcs.out, hend]; simp
    have hgo := Lib.hid (parS_go hl hE.out hk.out hcs0)
    replace hend := Lib.hid hend
    replace hcs0 := Lib.hid hcs0
    go_wp2_with fail
    refine ⟨⟨cpS3 s, _, rt, hsrc3, hE.out, by rw [hrtl.out]; omega, hq, hrow.more (fun b hb _ => hb.1), hr4, hr5, hB, ?_⟩, ?_⟩
    · rw [hsp.out, hgo.out, hrt.out]
      cases parS (cpS3 s) <;> simp [Except.map]
    · rw [hsrc3.refLen, hln.out]; exact (cp_less hE.out).1
  go_wp2_with fail
  refine (refU8_any w6 lo2 g2 si hin).mono ?_
  rintro e w7 ⟨rfl, hin1, hg7⟩
  have eT : numV si 1 = cpT si := rfl
  have eS1 : (tk si 1).1 = cpS1 si := rfl
  rw [eT]
  rw [eS1] at hin1
  replace hq := hq.grown hg7 (by intro e; injection e with e; omega)
  replace hrow := hrow.kept hg7 (fun b hb => hb.2) (fun e => by rcases hown _ e with h | h <;> omega)
  replace hr4 := hr4.grown hg7 (by intro e; injection e with e; omega)
  replace hr5 := hr5.grown hg7 (by intro e; injection e with e; omega)
  replace hB := below_own hB hg7 hB.size (by omega)
  replace hsrc3 := hsrc3.grown_up hg7 hgg
  clear hg7 eT eS1 hin
  have hlt7 := hin1.lt
  have hbx := (Below.refl w7.heap.size w7).alloc (Nat.le_refl _) (.cells #[.int .i64 (cpT si), .slice none 0 0] 129)
  have hc := Blk.new w7 129 #[.int .i64 (cpT si), .slice none 0 0]
  have hin1b := hin1.below hbx hlt7
  have hG := grown_alloc (grown_refl w7 (some g2)) (.cells #[.int .i64 (cpT si), .slice none 0 0] 129)
  have hown7 := hrow.own
  clear hbx hin1
  go_wp2_with fail
  generalize w7.alloc (.cells #[.int .i64 (cpT si), .slice none 0 0] 129) = x7 at *
  refine (refU8_any x7 lo2 g2 (cpS1 si) hin1b).mono ?_
  rintro e w8 ⟨rfl, hin2, hg8⟩
  have eN : numV (cpS1 si) 1 = cpN si := rfl
  have eS2 : (tk (cpS1 si) 1).1 = cpS2 si := rfl
  rw [eN]
  rw [eS2] at hin2
  replace hc := hc.grown hg8 (by intro e; injection e with e; omega)
  replace hG := grown_trans hG hg8
  clear hg8 eN eS2 hin1b
  go_wp2_with fail
  refine (refBytes_any w8 lo2 g2 (cpS2 si) hin2 (cpN si)).mono ?_
  rintro e w9 ⟨v9, rfl, own9, hin4, hg9⟩
  have eV : (tk (cpS2 si) (cpN si)).2 = cpV si := rfl
  have eS : (tk (cpS2 si) (cpN si)).1 = cpS3 si := rfl
  rw [eV] at own9
  rw [eS] at hin4
  obtain ⟨A9, c9, rfl, hc9, hcm9, by9, hA9⟩ := own9.any2
  have hz8 := hG.size
  have lt8 := hc.lt
  replace hc := hc.grown hg9 (by intro e; injection e with e; omega)
  replace hG := grown_trans hG hg9
  clear hg9 eV eS own9 hin2
  have q1 : w9.cell? ⟨w7.heap.size, 1, none⟩ = some (.slice none 0 0) := hc.cellv 1 rfl
  have fz1 := hc.frozen 1
  have lt9 := hc.lt
  have hby := Byt.bytS (lo := w8.heap.size) by9 (fun _ => hA9)
  obtain ⟨hc10, hg10⟩ := blk_store hc 1 (.slice A9 (cpV si).length c9)
  have hG10 := grown_setCell hG (p := ⟨w7.heap.size, 1, none⟩) (.inr (Nat.le_refl _)) (.slice A9 (cpV si).length c9)
  replace hby := hby.keep (w' := w9.setCell ⟨w7.heap.size, 1, none⟩ (.slice A9 (cpV si).length c9)) fun p hp => World.cell?_setCell_other _ _ _ _ (by intro e; have := hp.1; rw [← e] at this; simp at this; omega)
  have hin10 := hin4.grown_up hg10 hlt7
  have hz10 := hg10.size
  replace hc10 : Blk (w9.setCell ⟨w7.heap.size, 1, none⟩ (.slice A9 (cpV si).length c9)) w7.heap.size 129 #[.int .i64 (cpT si), .slice A9 (cpV si).length c9] := hc10
  generalize hw10 : w9.setCell ⟨w7.heap.size, 1, none⟩ (.slice A9 (cpV si).length c9) = w10 at *
  clear hc hG hin4 hg10 by9
  have hltq7 := hq.lt
  replace hrow := hrow.kept hG10 (fun b hb => hb.2) (fun e => by rcases hown _ e with h | h <;> omega)
  replace hq := hq.grown hG10 (by intro e; injection e with e; omega)
  replace hr4 := hr4.grown hG10 (by intro e; injection e with e; omega)
  replace hr5 := hr5.grown hG10 (by intro e; injection e with e; omega)
  replace hB := below_own hB hG10 hB.size (by omega)
  replace hsrc3 := hsrc3.grown_up hG10 hgg
  have hzG := hG10.size
  clear hG10
  have hEc := hin10.err
  have ltE := hin10.lt
  by_cases hE2 : (cpS3 si).e = 0
  rotate_left
  · have hne : ((cpS3 si).e != 0) = true := by simpa using hE2
    have hnn : capsS si = none := seqL_no hl2 hE2
    have hcs0 : capsS ⟨cpV s, 0, 0⟩ = none := by rw [← hsi0.out, hcs.out, hnn]; rfl
    replace hnn := Lib.hid hnn
    have spec : Hid (parseO l p = .error (0, [])) := Lib.hid (by rw [sp5.out, hsp.out, parS_lack hl hE.out hk.out hcs0]; rfl)
    replace hE2 := Lib.hid hE2
    replace hcs0 := Lib.hid hcs0
    have own := OwnB.nil w10 (w.heap.size + 2)
    go_wp2_with (first | (refine wpList_store_blk rfl hr4 64 (.tmp 4) (.tmp 112) rfl rfl rfl rfl hi (by simp [Value.oneCell']) ?_; intro wy hr6 hg6; replace own := own.kept hg6 (ownB_apart own (by omega)); replace hr5 := hr5.grown hg6 (by intro e; injection e with e; omega); replace hB := below_own hB hg6 hB.size (by omega)) | (refine wpList_store_blk rfl hr5 31 (.tmp 5) (.tmp 113) rfl rfl rfl rfl hj (by simp [Value.oneCell']) ?_; intro wz hr7 hg7; replace own := own.kept hg7 (ownB_apart own (by omega))))
    try rw [Exit.noGoto_ret]
    refine bodyPost_ret (results_cc rfl _ rfl rfl (load_blk (hr6.grown hg7 (by intro e; injection e with e; omega)) Try.underlying64 rfl hi) (load_blk hr7 Try.underlying31 rfl hj)) rfl ?_
    refine ⟨below_own hB hg7 hB.size (by omega), ?_⟩
    rw [spec.out]
    exact ⟨_, rfl, ownB_less own (by omega)⟩
  rw [hE2] at hEc
  have hgo := Lib.hid (capsS_go hl2 hE2)
  have hless := (cp_less hE2).1
  have hbo2 := cp_both si
  replace hE2 := Lib.hid hE2
  have ltq := hc10.lt
  have ltg := hq.lt
  have q0' : w10.cell? ⟨w7.heap.size, 0, none⟩ = some (.int .i64 (cpT si)) := hc10.cellv 0 rfl
  have q1' : w10.cell? ⟨w7.heap.size, 1, none⟩ = some (.slice A9 (cpV si).length c9) := hc10.cellv 1 rfl
  have q3' : w10.cell? ⟨gq, 3, none⟩ = some (.slice A2 rt.length c2) := hq.cellv 3 rfl
  obtain ⟨r, hrd⟩ : ∃ r : CapV, r = ⟨cpT si, A9, (cpV si).length, c9, cpV si⟩ := ⟨_, rfl⟩
  have hok : capK.ok w10 (fun b => w8.heap.size ≤ b ∧ b < w10.heap.size) r := by rw [hrd]; exact ⟨hc9, hcm9, hby.more fun b hb => ⟨hb.1, by omega⟩⟩
  have hcr : capK.cel r = [.int .i64 (cpT si), .slice A9 (cpV si).length c9] := by rw [hrd]; rfl
  have hone := seen_one w10 129 r #[.int .i64 (cpT si), .slice A9 (cpV si).length c9] (by rw [hcr]) hok (S' := fun b => b < w10.heap.size + 1) (fun b hb => hb.2) (Nat.lt_succ_self _) (fun b hb => by omega)
  have hby11 := (Below.refl w10.heap.size w10).alloc (Nat.le_refl _) (.cells #[.int .i64 (cpT si), .slice A9 (cpV si).length c9] 129)
  have hrow11 := hrow.alloc (.cells #[.int .i64 (cpT si), .slice A9 (cpV si).length c9] 129)
  have hin11 := hin10.alloc (.cells #[.int .i64 (cpT si), .slice A9 (cpV si).length c9] 129)
  have hsrc11 := hsrc3.alloc (.cells #[.int .i64 (cpT si), .slice A9 (cpV si).length c9] 129)
  have hq11 := hq.alloc (.cells #[.int .i64 (cpT si), .slice A9 (cpV si).length c9] 129)
  have hr411 := hr4.alloc (.cells #[.int .i64 (cpT si), .slice A9 (cpV si).length c9] 129)
  have hr511 := hr5.alloc (.cells #[.int .i64 (cpT si), .slice A9 (cpV si).length c9] 129)
  have hB11 := hB.alloc hB.size (.cells #[.int .i64 (cpT si), .slice A9 (cpV si).length c9] 129)
  have hz11 := hby11.size
  have hdk : capKey r = (cpT si, cpV si) := by rw [hrd]; rfl
  have hok11 : ∀ e ∈ [r], capK.ok (w10.alloc (.cells #[.int .i64 (cpT si), .slice A9 (cpV si).length c9] 129)) (fun b => (gq < b ∧ b ≠ g2) ∧ b < (w10.alloc (.cells #[.int .i64 (cpT si), .slice A9 (cpV si).length c9] 129)).heap.size ∧ (Value.slice A2 rt.length c2).ownBlock ≠ some b) e := fun e he => by
    obtain rfl : e = r := by simpa using he
    exact capK.more (capK.keep hok fun p hp => hby11.cell hp.2) fun b hb => ⟨⟨by omega, by omega⟩, by omega, fun e2 => by have := (hown7 b e2).2; omega⟩
  clear hok hrd hcr hby hrow hin10 hsrc3 hq hr4 hr5 hB hc10
  replace hdk := Lib.hid hdk
  go_wp2_with (at_builtin; refine wpList_rowsX refCap_ok rfl (.tmp 115) (.tmp 117) rfl hrow11 rfl rfl hone hok11 (by unfold maxLen; omega) (by omega) (by omega) ?_; intro v12 w12 hrow12 hg12 hv12; have hb12 := hrow11.below_app hg12 (by omega); obtain ⟨A12, c12, e12⟩ := hrow12.any; generalize hn12 : (rt ++ [r]).length = n12 at e12; subst e12; replace hn12 := Lib.hid hn12; have hq12 := hq11.below hb12 (Nat.lt_succ_self _); have ltq12 := hq12.lt; have fq12 := hq12.frozen 3; have cq12 : w12.cell? ⟨gq, 3, none⟩ = some (.slice A2 rt.length c2) := hq12.cellv 3 rfl)
  have hin12 : Ref w12 lo2 g2 (cpS3 si) := by
    cases ho : (Value.slice A2 rt.length c2).ownBlock with
    | none =>
      rw [ho] at hg12
      exact hin11.grown_up (row := (w10.alloc (.cells #[.int .i64 (cpT si), .slice A9 (cpV si).length c9] 129)).heap.size) ⟨hg12.os, hg12.tape, hg12.output, hg12.size, fun i hi _ => hg12.block i hi (by simp)⟩ (by omega)
    | some k =>
      rw [ho] at hg12
      rcases hown k ho with h | h
      · exact hin11.grown hg12 (by omega) (by omega)
      · exact hin11.grown_up hg12 h
  have hown12 : ∀ k, (Value.slice A12 n12 c12).ownBlock = some k → k < z4 ∨ g2 < k := fun k e => by
    rcases hv12 with h | h
    · exact hown k (h ▸ e)
    · rw [h] at e; injection e with e; right; omega
  obtain ⟨hqx, hgx⟩ := blk_store hq12 3 (.slice A12 n12 c12)
  have hinx := hin12.grown hgx (by omega) (by omega)
  refine ⟨⟨cpS3 si, _, rt ++ [r], rs2 ++ [r], hinx, hE2.out, by simp; omega, (hsrc11.below hb12 (by omega)).grown_up hgx hlt5, hqx, hrow12.kept hgx (fun b hb => by omega) (fun e => by have := (hrow12.own _ e).1; omega), by rw [hrt.out, List.append_assoc], hown12, (hr411.below hb12 (by omega)).grown hgx (by intro e; injection e with e; omega), (hr511.below hb12 (by omega)).grown hgx (by intro e; injection e with e; omega), below_own (hB11.trans (hb12.mono (by omega))) hgx (by have := hb12.size; omega) (by omega), ?_⟩, ?_⟩
  · rw [hcs.out, hgo.out]
    cases capsS (cpS3 si) <;> simp [hdk.out]
  · rw [hinx.refLen, hln2.out]; exact hless
end Go.Proofs.Ytlpplclhjkbjbaa
