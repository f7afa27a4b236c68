/- open: Parse. -/
import Derived.Test.YtlpplclhjkbjbaaOpJ
namespace Go.Proofs.Ytlpplclhjkbjbaa
set_option linter.unusedVariables false
open Go.RowKit

theorem results_cc {P : Program} {fn : Func} {a b : Tmp} {ty tz : TypeId} {w : World} {ad ae : Addr} {v u : Value} (h : fn.results = #[.cell a ty, .cell b tz]) (tmps : Array Value) (ha : tmps.getD a undef = .pointer (some ad)) (hb : tmps.getD b undef = .pointer (some ae))
    (hl : (loadVar ty ad).run P w = .ok v w) (hm : (loadVar tz ae).run P w = .ok u w) : (results fn tmps).run P w = .ok (.tuple #[v, u]) w := by
  have ha2 := ha
  have hb2 := hb
  simp only [Array.getD_eq_getD_getElem?] at ha2 hb2
  simp [results, h, ha2, hb2, asAddr, hl, hm]
theorem ownB_apart {w : World} {base n g : Nat} {v : Value} {l : List UInt8} (h : OwnB w base v n l) (hg : g < base) : v.ownBlock = none ∨ v.ownBlock ≠ some g := by
  cases hv : v.ownBlock with
  | none => exact .inl rfl
  | some k => exact .inr (by intro e; injection e with e; have := World.ownsRow.lt h k hv; omega)
theorem ownB_less {w : World} {base base' n : Nat} {v : Value} {l : List UInt8} (h : OwnB w base v n l) (hle : base' ≤ base) : OwnB w base' v n l := by
  refine ⟨h.1, ?_⟩
  rcases h.2 with h0 | ⟨g, cap, cur, q1, q2, q3⟩
  · exact .inl h0
  · exact .inr ⟨g, cap, cur, q1, by omega, q3⟩
def zO : Array Value := #[.int .i64 0, .int .i64 0, .int .u32 0, .slice none 0 0]
def poS (l : List UInt8) : St := ⟨l, 0, 0⟩
def poV (l : List UInt8) : Int := numV (poS l) 1
def poS1 (l : List UInt8) : St := (tk (poS l) 1).1
def poA (l : List UInt8) : Int := numV (poS1 l) 2
def poS2 (l : List UInt8) : St := (tk (poS1 l) 2).1
def poH (l : List UInt8) : Int := numV (poS2 l) 2
def poS3 (l : List UInt8) : St := (tk (poS2 l) 2).1
def poI (l : List UInt8) : Int := numV (poS3 l) 4
def poS4 (l : List UInt8) : St := (tk (poS3 l) 4).1
def poN (l : List UInt8) : Int := numV (poS4 l) 1
def poS5 (l : List UInt8) : St := (tk (poS4 l) 1).1
theorem poS5_e (l : List UInt8) (h : 10 ≤ l.length) : (poS5 l).e = 0 ∧ (poS5 l).l.length ≤ l.length := by
  have st : ∀ (s : St) (m : Nat), s.e = 0 → m ≤ s.l.length → (tk s m).1.e = 0 ∧ (tk s m).1.l.length = s.l.length - m := fun s m h0 hm => by
    unfold tk
    rw [if_neg (by simpa using h0), if_neg (by omega), if_neg (by omega)]
    simp
  obtain ⟨e1, l1⟩ := st (poS l) 1 rfl (by show 1 ≤ l.length; omega)
  have l1' : (poS1 l).l.length = l.length - 1 := l1
  obtain ⟨e2, l2⟩ := st (poS1 l) 2 e1 (by omega)
  have l2' : (poS2 l).l.length = (poS1 l).l.length - 2 := l2
  obtain ⟨e3, l3⟩ := st (poS2 l) 2 e2 (by omega)
  have l3' : (poS3 l).l.length = (poS2 l).l.length - 2 := l3
  obtain ⟨e4, l4⟩ := st (poS3 l) 4 e3 (by omega)
  have l4' : (poS4 l).l.length = (poS3 l).l.length - 4 := l4
  obtain ⟨e5, l5⟩ := st (poS4 l) 1 e4 (by omega)
  have l5' : (poS5 l).l.length = (poS4 l).l.length - 1 := l5
  exact ⟨e5, by omega⟩
abbrev OpenD := Int × Int × Int × List CapD
/-- the body of bytes, or a fault's Sub and its data. -/
def parseO (l : List UInt8) (p : Int) : Except (Int × List UInt8) OpenD :=
  if l.length < 10 then .error (0, []) else if poV l ≠ 4 then .error (1, [0, 4]) else if poA l = 0 ∨ (1 ≤ p ∧ poA l ≠ p) then .error (2, [])
  else if holdB (poH l) = false then .error (6, []) else if poI l = 0 then .error (3, []) else if poN l ≠ leftV (poS5 l) then .error (0, [])
  else match parS (poS5 l) with
    | .error x => .error (x, [])
    | .ok ds => .ok (poA l, poH l, poI l, ds)
def ParseP (T : TypeId) (w w' : World) (e : Ending) : Except (Int × List UInt8) OpenD → Prop
  | .error x => ∃ v, e = .returned (.tuple #[.agg zO, .agg #[.int .i64 2, .int .i64 x.1, v]]) ∧ OwnB w' w.heap.size v x.2.length x.2
  | .ok d => ∃ v rs, e = .returned (.tuple #[.agg #[.int .i64 d.1, .int .i64 d.2.1, .int .u32 d.2.2.1, v], .agg zF]) ∧ Rows capK w' w.heap.size w.heap.size T v rs ∧ rs.map capKey = d.2.2.2
set_option maxRecDepth 100000 in
set_option maxHeartbeats 4000000 in
theorem openFault_any (w : World) (sub : Int) (A : Option Addr) (n c : Nat) : Calls Try.prog 93 #[.int .i64 sub, .slice A n c] w fun e w' => e = .returned (.tuple #[.agg #[.int .i64 0, .int .i64 0, .int .u32 0, .slice none 0 0], .agg #[.int .i64 2, .int .i64 sub, .slice A n c]]) ∧ Below w.heap.size w w' := by
  have hi : (Try.prog.info? 57).map (·.size) = some 4 := by kernel_rfl
  have hj : (Try.prog.info? 31).map (·.size) = some 3 := by kernel_rfl
  have hB := (Below.refl w.heap.size w).alloc (Nat.le_refl _) (.cells zO 57)
  have hr := Blk.new w 57 zO
  have hB2 := hB.alloc hB.size (.cells zF 31)
  have hr2 := hr.alloc (.cells zF 31)
  have hs2 := Blk.new (w.alloc (.cells zO 57)) 31 zF
  have lt1 := hr.lt
  generalize hw1 : w.alloc (.cells zO 57) = w1 at *
  generalize hw2 : w1.alloc (.cells zF 31) = w2 at *
  unfold zO at hw1 hr hr2
  unfold zF at hw2 hs2
  go_enter Try.func93, Try.ntmps93
  go_wp2_with (first | (refine wpList_store_blk rfl hr2 57 (.tmp 4) (.tmp 6) rfl rfl rfl rfl hi (by simp [Value.oneCell']) ?_; intro w3 hr3 hg3; replace hs2 := hs2.grown hg3 (by simp; omega); replace hB2 := below_own hB2 hg3 hB2.size (by omega)) | (refine wpList_store_blk rfl hs2 31 (.tmp 5) (.tmp 9) rfl rfl rfl rfl hj (by simp [Value.oneCell']) ?_; intro w4 hs4 hg4))
  try rw [Exit.noGoto_ret]
  refine bodyPost_ret (results_cc rfl _ rfl rfl (load_blk (hr3.grown hg4 (by simp; omega)) Try.underlying57 rfl hi) (load_blk hs4 Try.underlying31 rfl hj)) rfl ?_
  exact ⟨rfl, below_own hB2 hg4 hB2.size (by omega)⟩
set_option maxRecDepth 100000 in
set_option maxHeartbeats 16000000 in
theorem openParse_any (w : World) (A : Option Addr) (n c : Nat) (l : List UInt8) (p : Int) (h : Byt w w.heap.size A n l) (hn : n ≤ 10000000) :
    Calls Try.prog 41 #[.slice A n c, .int .i64 p] w fun e w' => Below w.heap.size w w' ∧ ParseP 60 w w' e (parseO l p) := by
  have hi : (Try.prog.info? 57).map (·.size) = some 4 := by kernel_rfl
  have hj : (Try.prog.info? 31).map (·.size) = some 3 := by kernel_rfl
  have hl := h.1
  have hB := (Below.refl w.heap.size w).alloc (Nat.le_refl _) (.cells zO 57)
  have hr4 := Blk.new w 57 zO
  replace hB := hB.alloc hB.size (.cells zF 31)
  replace hr4 := hr4.alloc (.cells zF 31)
  have hr5 : Blk ((w.alloc (.cells zO 57)).alloc (.cells zF 31)) (w.heap.size + 1) 31 zF := by
    have := Blk.new (w.alloc (.cells zO 57)) 31 zF
    simpa using this
  have hI := (h.below hB).more hB.size
  have hz2 : ((w.alloc (.cells zO 57)).alloc (.cells zF 31)).heap.size = w.heap.size + 2 := by simp
  unfold zO at hr4 hB hr5 hI hz2
  unfold zF at hr4 hB hr5 hI hz2
  clear h
  go_enter Try.func41, Try.ntmps41
  by_cases hs : n < 10
  · have d1 : (n : Int) < 10 := by omega
    have spec : parseO l p = .error (0, []) := if_pos (by rw [hl]; exact hs)
    replace spec := Lib.hid spec
    replace hl := Lib.hid hl
    go_wp2_with fail
    generalize ((w.alloc (.cells #[.int .i64 0, .int .i64 0, .int .u32 0, .slice none 0 0] 57)).alloc (.cells #[.int .i64 0, .int .i64 0, .slice none 0 0] 31)) = w2 at *
    have own := OwnB.nil w2 (w.heap.size + 2)
    refine (openFault_any w2 0 none 0 0).mono ?_
    rintro e wx ⟨rfl, hb⟩
    replace own := own.below hb
    replace hr4 := hr4.below hb hr4.lt
    replace hr5 := hr5.below hb hr5.lt
    replace hB := hB.trans (hb.mono hB.size)
    clear hb
    go_wp2_with (first | (refine wpList_store_blk rfl hr4 57 (.tmp 4) (.tmp 18) rfl rfl rfl rfl hi (by simp [Value.oneCell']) ?_; intro wy hr6 hg6; replace own := own.kept hg6 (ownB_apart own (by omega)); replace hr5 := hr5.grown hg6 (by intro e; injection e with e; omega); replace hB := below_own hB hg6 hB.size (by omega)) | (refine wpList_store_blk rfl hr5 31 (.tmp 5) (.tmp 19) rfl rfl rfl rfl hj (by simp [Value.oneCell']) ?_; intro wz hr7 hg7; replace own := own.kept hg7 (ownB_apart own (by omega))))
    try rw [Exit.noGoto_ret]
    refine bodyPost_ret (results_cc rfl _ rfl rfl (load_blk (hr6.grown hg7 (by intro e; injection e with e; omega)) Try.underlying57 rfl hi) (load_blk hr7 Try.underlying31 rfl hj)) rfl ?_
    refine ⟨below_own hB hg7 hB.size (by omega), ?_⟩
    rw [spec.out]
    exact ⟨_, rfl, ownB_less own (by omega)⟩
  have d1 : (10 : Int) ≤ n := by omega
  obtain ⟨he5, hl5⟩ := poS5_e l (by omega)
  have sp0 : parseO l p = if poV l ≠ 4 then .error (1, [0, 4]) else if poA l = 0 ∨ (1 ≤ p ∧ poA l ≠ p) then .error (2, [])
      else if holdB (poH l) = false then .error (6, []) else if poI l = 0 then .error (3, []) else if poN l ≠ leftV (poS5 l) then .error (0, [])
      else match parS (poS5 l) with
      | .error x => .error (x, [])
      | .ok ds => .ok (poA l, poH l, poI l, ds) := if_neg (by omega)
  have hlim : (poS5 l).l.length ≤ 10000000 := by omega
  replace sp0 := Lib.hid sp0
  replace he5 := Lib.hid he5
  replace hlim := Lib.hid hlim
  replace hl := Lib.hid hl
  clear hl5
  go_wp2_with fail
  generalize ((w.alloc (.cells #[.int .i64 0, .int .i64 0, .int .u32 0, .slice none 0 0] 57)).alloc (.cells #[.int .i64 0, .int .i64 0, .slice none 0 0] 31)) = w2 at *
  refine (read_any w2 A n c l _ hI (Nat.le_refl _) (by omega)).mono ?_
  rintro e w3 ⟨g, rfl, hg, hsrc, hb⟩
  replace hr4 := hr4.below hb hr4.lt
  replace hr5 := hr5.below hb hr5.lt
  replace hB := hB.trans (hb.mono hB.size)
  replace hsrc : Src w3 g (poS l) := hsrc
  have hg2 : w.heap.size + 2 ≤ g := by omega
  clear hb hI hg hz2
  go_wp2_with fail
  refine (u8_any w3 g (poS l) hsrc).mono ?_
  rintro e w4 ⟨rfl, hsrc1, hg4⟩
  replace hsrc1 : Src w4 g (poS1 l) := hsrc1
  have eV : numV (poS l) 1 = poV l := rfl
  rw [eV]
  clear hsrc eV
  replace hr4 := hr4.grown hg4 (by simp; omega)
  replace hr5 := hr5.grown hg4 (by simp; omega)
  replace hB := below_own hB hg4 hB.size (by omega)
  clear hg4
  by_cases hv : poV l = 4
  rotate_left
  · have b1 : (poV l != 4) = true := by simpa using hv
    have spec : parseO l p = .error (1, [0, 4]) := by rw [sp0.out, if_pos hv]
    replace spec := Lib.hid spec
    replace hv := Lib.hid hv
    have hz4 := hB.size
    have own := OwnB.lit (base := w.heap.size + 2) w4 [0, 4] (by have := hsrc1.lt; omega) (by decide)
    have hba := (Below.refl w4.heap.size w4).alloc (Nat.le_refl _) (.cells (byCells [0, 4]) 5)
    rw [show byCells [0, 4] = #[.int .u8 0, .int .u8 4] from rfl] at own hba
    replace hr4 := hr4.below hba hr4.lt
    replace hr5 := hr5.below hba hr5.lt
    replace hB := hB.trans (hba.mono hB.size)
    replace own : OwnB (w4.alloc (.cells #[.int .u8 0, .int .u8 4] 5)) (w.heap.size + 2) (.slice (some ⟨w4.heap.size, 0, none⟩) 2 2) 2 [0, 4] := own
    clear hba hsrc1
    go_wp2_with fail
    generalize w4.alloc (.cells #[.int .u8 0, .int .u8 4] 5) = x4 at *
    refine (openFault_any x4 1 (some ⟨w4.heap.size, 0, none⟩) 2 2).mono ?_
    rintro e wx ⟨rfl, hb⟩
    replace own := own.below hb
    replace hr4 := hr4.below hb hr4.lt
    replace hr5 := hr5.below hb hr5.lt
    replace hB := hB.trans (hb.mono hB.size)
    clear hb
    go_wp2_with (first | (refine wpList_store_blk rfl hr4 57 (.tmp 4) (.tmp 28) rfl rfl rfl rfl hi (by simp [Value.oneCell']) ?_; intro wy hr6 hg6; replace own := own.kept hg6 (ownB_apart own (by omega)); replace hr5 := hr5.grown hg6 (by intro e; injection e with e; omega); replace hB := below_own hB hg6 hB.size (by omega)) | (refine wpList_store_blk rfl hr5 31 (.tmp 5) (.tmp 29) rfl rfl rfl rfl hj (by simp [Value.oneCell']) ?_; intro wz hr7 hg7; replace own := own.kept hg7 (ownB_apart own (by omega))))
    try rw [Exit.noGoto_ret]
    refine bodyPost_ret (results_cc rfl _ rfl rfl (load_blk (hr6.grown hg7 (by intro e; injection e with e; omega)) Try.underlying57 rfl hi) (load_blk hr7 Try.underlying31 rfl hj)) rfl ?_
    refine ⟨below_own hB hg7 hB.size (by omega), ?_⟩
    rw [spec.out]
    exact ⟨_, rfl, ownB_less own (by omega)⟩
  have b1 : (poV l != 4) = false := by simpa using hv
  have sp1 := Lib.hid (sp0.out.trans (if_neg (by simpa using hv)))
  replace hv := Lib.hid hv
  clear sp0
  go_wp2_with fail
  refine (u16_any w4 g (poS1 l) hsrc1).mono ?_
  rintro e w5 ⟨rfl, hsrc2, hg4⟩
  replace hsrc2 : Src w5 g (poS2 l) := hsrc2
  have eV : numV (poS1 l) 2 = poA l := rfl
  rw [eV]
  clear eV hsrc1
  replace hr4 := hr4.grown hg4 (by simp; omega)
  replace hr5 := hr5.grown hg4 (by simp; omega)
  replace hB := below_own hB hg4 hB.size (by omega)
  clear hg4
  go_wp2_with fail
  refine (u16_any w5 g (poS2 l) hsrc2).mono ?_
  rintro e w6 ⟨rfl, hsrc3, hg4⟩
  replace hsrc3 : Src w6 g (poS3 l) := hsrc3
  have eV : numV (poS2 l) 2 = poH l := rfl
  rw [eV]
  clear eV hsrc2
  replace hr4 := hr4.grown hg4 (by simp; omega)
  replace hr5 := hr5.grown hg4 (by simp; omega)
  replace hB := below_own hB hg4 hB.size (by omega)
  clear hg4
  go_wp2_with fail
  refine (u32_any w6 g (poS3 l) hsrc3).mono ?_
  rintro e w7 ⟨rfl, hsrc4, hg4⟩
  replace hsrc4 : Src w7 g (poS4 l) := hsrc4
  have eV : numV (poS3 l) 4 = poI l := rfl
  rw [eV]
  clear eV hsrc3
  replace hr4 := hr4.grown hg4 (by simp; omega)
  replace hr5 := hr5.grown hg4 (by simp; omega)
  replace hB := below_own hB hg4 hB.size (by omega)
  clear hg4
  have hlt7 := hsrc4.lt
  have hba := (Below.refl w7.heap.size w7).alloc (Nat.le_refl _) (.cells #[.int .i64 (poA l), .int .i64 (poH l), .int .u32 (poI l), .slice none 0 0] 57)
  have hq := Blk.new w7 57 #[.int .i64 (poA l), .int .i64 (poH l), .int .u32 (poI l), .slice none 0 0]
  replace hr4 := hr4.below hba hr4.lt
  replace hr5 := hr5.below hba hr5.lt
  replace hB := hB.trans (hba.mono hB.size)
  replace hsrc4 := hsrc4.below hba hlt7
  clear hba
  go_wp2_with fail
  generalize w7.alloc (.cells #[.int .i64 (poA l), .int .i64 (poH l), .int .u32 (poI l), .slice none 0 0] 57) = x7 at *
  refine (u8_any x7 g (poS4 l) hsrc4).mono ?_
  rintro e w8 ⟨rfl, hsrc5, hg4⟩
  replace hsrc5 : Src w8 g (poS5 l) := hsrc5
  have eV : numV (poS4 l) 1 = poN l := rfl
  rw [eV]
  replace hq := hq.grown hg4 (by simp; omega)
  clear eV hsrc4
  replace hr4 := hr4.grown hg4 (by simp; omega)
  replace hr5 := hr5.grown hg4 (by simp; omega)
  replace hB := below_own hB hg4 hB.size (by omega)
  clear hg4
  generalize w7.heap.size = gq at *
  have ltq := hq.lt
  have q0 : w8.cell? ⟨gq, 0, none⟩ = some (.int .i64 (poA l)) := hq.cellv 0 rfl
  have q1 : w8.cell? ⟨gq, 1, none⟩ = some (.int .i64 (poH l)) := hq.cellv 1 rfl
  have q2 : w8.cell? ⟨gq, 2, none⟩ = some (.int .u32 (poI l)) := hq.cellv 2 rfl
  have q3 : w8.cell? ⟨gq, 3, none⟩ = some (.slice none 0 0) := hq.cellv 3 rfl
  have hz8 := hB.size
  by_cases ha : poA l = 0
  · have b2 : (poA l == 0) = true := by simpa using ha
    have spec := Lib.hid (sp1.out.trans (if_pos (.inl ha)))
    replace ha := Lib.hid ha
    go_wp2_with fail
    have own := OwnB.nil w8 (w.heap.size + 2)
    refine (openFault_any w8 2 none 0 0).mono ?_
    rintro e wx ⟨rfl, hb⟩
    replace own := own.below hb
    replace hr4 := hr4.below hb hr4.lt
    replace hr5 := hr5.below hb hr5.lt
    replace hB := hB.trans (hb.mono hB.size)
    clear hb
    go_wp2_with (first | (refine wpList_store_blk rfl hr4 57 (.tmp 4) (.tmp 55) rfl rfl rfl rfl hi (by simp [Value.oneCell']) ?_; intro wy hr6 hg6; replace own := own.kept hg6 (ownB_apart own (by omega)); replace hr5 := hr5.grown hg6 (by intro e; injection e with e; omega); replace hB := below_own hB hg6 hB.size (by omega)) | (refine wpList_store_blk rfl hr5 31 (.tmp 5) (.tmp 56) rfl rfl rfl rfl hj (by simp [Value.oneCell']) ?_; intro wz hr7 hg7; replace own := own.kept hg7 (ownB_apart own (by omega))))
    try rw [Exit.noGoto_ret]
    refine bodyPost_ret (results_cc rfl _ rfl rfl (load_blk (hr6.grown hg7 (by intro e; injection e with e; omega)) Try.underlying57 rfl hi) (load_blk hr7 Try.underlying31 rfl hj)) rfl ?_
    refine ⟨below_own hB hg7 hB.size (by omega), ?_⟩
    rw [spec.out]
    exact ⟨_, rfl, ownB_less own (by omega)⟩
  have b2 : (poA l == 0) = false := by simpa using ha
  by_cases hp : 1 ≤ p
  rotate_left
  · have d2 : p < 1 := by omega
    have sp2 := Lib.hid (sp1.out.trans (if_neg (by omega)))
    replace ha := Lib.hid ha
    replace hp := Lib.hid hp
    clear sp1
    go_wp2_with fail
    refine (goodHold_any (poH l) w8).mono ?_
    rintro e w9 ⟨rfl, rfl⟩
    cases hh : holdB (poH l)
    · have spec := Lib.hid (sp2.out.trans (if_pos hh))
      go_wp2_with fail
      have own := OwnB.nil w8 (w.heap.size + 2)
      refine (openFault_any w8 6 none 0 0).mono ?_
      rintro e wx ⟨rfl, hb⟩
      replace own := own.below hb
      replace hr4 := hr4.below hb hr4.lt
      replace hr5 := hr5.below hb hr5.lt
      replace hB := hB.trans (hb.mono hB.size)
      clear hb
      go_wp2_with (first | (refine wpList_store_blk rfl hr4 57 (.tmp 4) (.tmp 64) rfl rfl rfl rfl hi (by simp [Value.oneCell']) ?_; intro wy hr6 hg6; replace own := own.kept hg6 (ownB_apart own (by omega)); replace hr5 := hr5.grown hg6 (by intro e; injection e with e; omega); replace hB := below_own hB hg6 hB.size (by omega)) | (refine wpList_store_blk rfl hr5 31 (.tmp 5) (.tmp 65) rfl rfl rfl rfl hj (by simp [Value.oneCell']) ?_; intro wz hr7 hg7; replace own := own.kept hg7 (ownB_apart own (by omega))))
      try rw [Exit.noGoto_ret]
      refine bodyPost_ret (results_cc rfl _ rfl rfl (load_blk (hr6.grown hg7 (by intro e; injection e with e; omega)) Try.underlying57 rfl hi) (load_blk hr7 Try.underlying31 rfl hj)) rfl ?_
      refine ⟨below_own hB hg7 hB.size (by omega), ?_⟩
      rw [spec.out]
      exact ⟨_, rfl, ownB_less own (by omega)⟩
    have sp3 := Lib.hid (sp2.out.trans (if_neg (by rw [hh]; decide)))
    by_cases hid : poI l = 0
    · have b4 : (poI l == 0) = true := by simpa using hid
      have spec := Lib.hid (sp3.out.trans (if_pos hid))
      replace hid := Lib.hid hid
      go_wp2_with fail
      have own := OwnB.nil w8 (w.heap.size + 2)
      refine (openFault_any w8 3 none 0 0).mono ?_
      rintro e wx ⟨rfl, hb⟩
      replace own := own.below hb
      replace hr4 := hr4.below hb hr4.lt
      replace hr5 := hr5.below hb hr5.lt
      replace hB := hB.trans (hb.mono hB.size)
      clear hb
      go_wp2_with (first | (refine wpList_store_blk rfl hr4 57 (.tmp 4) (.tmp 72) rfl rfl rfl rfl hi (by simp [Value.oneCell']) ?_; intro wy hr6 hg6; replace own := own.kept hg6 (ownB_apart own (by omega)); replace hr5 := hr5.grown hg6 (by intro e; injection e with e; omega); replace hB := below_own hB hg6 hB.size (by omega)) | (refine wpList_store_blk rfl hr5 31 (.tmp 5) (.tmp 73) rfl rfl rfl rfl hj (by simp [Value.oneCell']) ?_; intro wz hr7 hg7; replace own := own.kept hg7 (ownB_apart own (by omega))))
      try rw [Exit.noGoto_ret]
      refine bodyPost_ret (results_cc rfl _ rfl rfl (load_blk (hr6.grown hg7 (by intro e; injection e with e; omega)) Try.underlying57 rfl hi) (load_blk hr7 Try.underlying31 rfl hj)) rfl ?_
      refine ⟨below_own hB hg7 hB.size (by omega), ?_⟩
      rw [spec.out]
      exact ⟨_, rfl, ownB_less own (by omega)⟩
    have b4 : (poI l == 0) = false := by simpa using hid
    have sp4 := Lib.hid (sp3.out.trans (if_neg hid))
    replace hid := Lib.hid hid
    clear sp2 sp3
    go_wp2_with fail
    refine (left_any w8 g (poS5 l) hsrc5).mono ?_
    rintro e w9 ⟨rfl, rfl⟩
    by_cases hN : poN l = leftV (poS5 l)
    rotate_left
    · have b5 : (poN l != leftV (poS5 l)) = true := by simpa using hN
      have spec := Lib.hid (sp4.out.trans (if_pos hN))
      replace hN := Lib.hid hN
      go_wp2_with fail
      have own := OwnB.nil w8 (w.heap.size + 2)
      refine (openFault_any w8 0 none 0 0).mono ?_
      rintro e wx ⟨rfl, hb⟩
      replace own := own.below hb
      replace hr4 := hr4.below hb hr4.lt
      replace hr5 := hr5.below hb hr5.lt
      replace hB := hB.trans (hb.mono hB.size)
      clear hb
      go_wp2_with (first | (refine wpList_store_blk rfl hr4 57 (.tmp 4) (.tmp 81) rfl rfl rfl rfl hi (by simp [Value.oneCell']) ?_; intro wy hr6 hg6; replace own := own.kept hg6 (ownB_apart own (by omega)); replace hr5 := hr5.grown hg6 (by intro e; injection e with e; omega); replace hB := below_own hB hg6 hB.size (by omega)) | (refine wpList_store_blk rfl hr5 31 (.tmp 5) (.tmp 82) rfl rfl rfl rfl hj (by simp [Value.oneCell']) ?_; intro wz hr7 hg7; replace own := own.kept hg7 (ownB_apart own (by omega))))
      try rw [Exit.noGoto_ret]
      refine bodyPost_ret (results_cc rfl _ rfl rfl (load_blk (hr6.grown hg7 (by intro e; injection e with e; omega)) Try.underlying57 rfl hi) (load_blk hr7 Try.underlying31 rfl hj)) rfl ?_
      refine ⟨below_own hB hg7 hB.size (by omega), ?_⟩
      rw [spec.out]
      exact ⟨_, rfl, ownB_less own (by omega)⟩
    have b5 : (poN l != leftV (poS5 l)) = false := by simpa using hN
    have sp5 := Lib.hid (sp4.out.trans (if_neg (by simpa using hN)))
    replace hN := Lib.hid hN
    clear sp4
    go_wp2_with fail
    refine (params_any w8 g (poS5 l) hsrc5 he5.out hlim.out).mono ?_
    rintro e w9 ⟨hg9, hP⟩
    have hlt8 := hsrc5.lt
    replace hq := hq.grown hg9 (by intro e; injection e with e; omega)
    have hz89 := hg9.size
    clear hsrc5 q0 q1 q2 q3
    replace hr4 := hr4.grown hg9 (by simp; omega)
    replace hr5 := hr5.grown hg9 (by simp; omega)
    replace hB := below_own hB hg9 hB.size (by omega)
    clear hg9
    have lt9 := hq.lt
    cases hc : parS (poS5 l) with
    | error x =>
      rw [hc] at hP
      obtain rfl := hP
      have spec : Hid (parseO l p = .error (x, [])) := Lib.hid (by rw [sp5.out, hc])
      go_wp2_with fail
      have own := OwnB.nil w9 (w.heap.size + 2)
      refine (openFault_any w9 x none 0 0).mono ?_
      rintro e wx ⟨rfl, hb⟩
      replace own := own.below hb
      replace hr4 := hr4.below hb hr4.lt
      replace hr5 := hr5.below hb hr5.lt
      replace hB := hB.trans (hb.mono hB.size)
      clear hb
      go_wp2_with (first | (refine wpList_store_blk rfl hr4 57 (.tmp 4) (.tmp 94) rfl rfl rfl rfl hi (by simp [Value.oneCell']) ?_; intro wy hr6 hg6; replace own := own.kept hg6 (ownB_apart own (by omega)); replace hr5 := hr5.grown hg6 (by intro e; injection e with e; omega); replace hB := below_own hB hg6 hB.size (by omega)) | (refine wpList_store_blk rfl hr5 31 (.tmp 5) (.tmp 95) rfl rfl rfl rfl hj (by simp [Value.oneCell']) ?_; intro wz hr7 hg7; replace own := own.kept hg7 (ownB_apart own (by omega))))
      try rw [Exit.noGoto_ret]
      refine bodyPost_ret (results_cc rfl _ rfl rfl (load_blk (hr6.grown hg7 (by intro e; injection e with e; omega)) Try.underlying57 rfl hi) (load_blk hr7 Try.underlying31 rfl hj)) rfl ?_
      refine ⟨below_own hB hg7 hB.size (by omega), ?_⟩
      rw [spec.out]
      exact ⟨_, rfl, ownB_less own (by omega)⟩
    | ok ds =>
      rw [hc] at hP
      obtain ⟨v1, rs, rfl, hrow, hk⟩ := hP
      have spec : Hid (parseO l p = .ok (poA l, poH l, poI l, ds)) := Lib.hid (by rw [sp5.out, hc])
      obtain ⟨A1, c1, rfl, _, _, _⟩ := hrow.seen (Nat.le_refl _)
      have cc3 : w9.cell? ⟨gq, 3, none⟩ = some (.slice none 0 0) := hq.cellv 3 rfl
      have fz3 := hq.frozen 3
      obtain ⟨hq2, hgs⟩ := blk_store hq 3 (.slice A1 rs.length c1)
      have hrow2 := hrow.kept hgs (fun k e => by cases e; omega) (Nat.le_refl _)
      replace hr4 := hr4.grown hgs (by intro e; injection e with e; omega)
      replace hr5 := hr5.grown hgs (by intro e; injection e with e; omega)
      replace hB := below_own hB hgs hB.size (by omega)
      replace hq2 : Blk (w9.setCell ⟨gq, 3, none⟩ (.slice A1 rs.length c1)) gq 57 #[.int .i64 (poA l), .int .i64 (poH l), .int .u32 (poI l), .slice A1 rs.length c1] := hq2
      replace hk := Lib.hid hk
      replace sp5 := trivial
      clear hrow hq
      generalize hws : w9.setCell ⟨gq, 3, none⟩ (.slice A1 rs.length c1) = ws at *
      have hrow := hrow2
      have ltq2 := hq2.lt
      have q0 : ws.cell? ⟨gq, 0, none⟩ = some (.int .i64 (poA l)) := hq2.cellv 0 rfl
      have q1 : ws.cell? ⟨gq, 1, none⟩ = some (.int .i64 (poH l)) := hq2.cellv 1 rfl
      have q2 : ws.cell? ⟨gq, 2, none⟩ = some (.int .u32 (poI l)) := hq2.cellv 2 rfl
      have q3 : ws.cell? ⟨gq, 3, none⟩ = some (.slice A1 rs.length c1) := hq2.cellv 3 rfl
      go_wp2_with (first | (refine wpList_store_blk rfl hr4 57 (.tmp 4) (.tmp 98) rfl rfl rfl rfl hi (by simp [Value.oneCell']) ?_; intro wy hr6 hg6; replace hrow := hrow.kept hg6 (fun k e => by cases e; omega) (Nat.le_refl _); replace hr5 := hr5.grown hg6 (by intro e; injection e with e; omega); replace hB := below_own hB hg6 hB.size (by omega)) | (refine wpList_store_blk rfl hr5 31 (.tmp 5) (.tmp 99) rfl rfl rfl rfl hj (by simp [Value.oneCell']) ?_; intro wz hr7 hg7; replace hrow := hrow.kept hg7 (fun k e => by cases e; omega) (Nat.le_refl _)))
      try rw [Exit.noGoto_ret]
      refine bodyPost_ret (results_cc rfl _ rfl rfl (load_blk (hr6.grown hg7 (by intro e; injection e with e; omega)) Try.underlying57 rfl hi) (load_blk hr7 Try.underlying31 rfl hj)) rfl ?_
      refine ⟨below_own hB hg7 hB.size (by omega), ?_⟩
      rw [spec.out]
      exact ⟨_, rs, rfl, hrow.less (by omega) (by omega), hk.out⟩
  by_cases hap : poA l = p
  rotate_left
  · have b3 : (poA l != p) = true := by simpa using hap
    have spec := Lib.hid (sp1.out.trans (if_pos (.inr ⟨hp, hap⟩)))
    replace ha := Lib.hid ha
    replace hap := Lib.hid hap
    go_wp2_with fail
    have own := OwnB.nil w8 (w.heap.size + 2)
    refine (openFault_any w8 2 none 0 0).mono ?_
    rintro e wx ⟨rfl, hb⟩
    replace own := own.below hb
    replace hr4 := hr4.below hb hr4.lt
    replace hr5 := hr5.below hb hr5.lt
    replace hB := hB.trans (hb.mono hB.size)
    clear hb
    go_wp2_with (first | (refine wpList_store_blk rfl hr4 57 (.tmp 4) (.tmp 55) rfl rfl rfl rfl hi (by simp [Value.oneCell']) ?_; intro wy hr6 hg6; replace own := own.kept hg6 (ownB_apart own (by omega)); replace hr5 := hr5.grown hg6 (by intro e; injection e with e; omega); replace hB := below_own hB hg6 hB.size (by omega)) | (refine wpList_store_blk rfl hr5 31 (.tmp 5) (.tmp 56) rfl rfl rfl rfl hj (by simp [Value.oneCell']) ?_; intro wz hr7 hg7; replace own := own.kept hg7 (ownB_apart own (by omega))))
    try rw [Exit.noGoto_ret]
    refine bodyPost_ret (results_cc rfl _ rfl rfl (load_blk (hr6.grown hg7 (by intro e; injection e with e; omega)) Try.underlying57 rfl hi) (load_blk hr7 Try.underlying31 rfl hj)) rfl ?_
    refine ⟨below_own hB hg7 hB.size (by omega), ?_⟩
    rw [spec.out]
    exact ⟨_, rfl, ownB_less own (by omega)⟩
  have b3 : (poA l != p) = false := by simpa using hap
  have sp2 := Lib.hid (sp1.out.trans (if_neg (by intro h; rcases h with h | h; exact ha h; exact h.2 hap)))
  replace ha := Lib.hid ha
  replace hap := Lib.hid hap
  clear sp1
  go_wp2_with fail
  refine (goodHold_any (poH l) w8).mono ?_
  rintro e w9 ⟨rfl, rfl⟩
  cases hh : holdB (poH l)
  · have spec := Lib.hid (sp2.out.trans (if_pos hh))
    go_wp2_with fail
    have own := OwnB.nil w8 (w.heap.size + 2)
    refine (openFault_any w8 6 none 0 0).mono ?_
    rintro e wx ⟨rfl, hb⟩
    replace own := own.below hb
    replace hr4 := hr4.below hb hr4.lt
    replace hr5 := hr5.below hb hr5.lt
    replace hB := hB.trans (hb.mono hB.size)
    clear hb
    go_wp2_with (first | (refine wpList_store_blk rfl hr4 57 (.tmp 4) (.tmp 64) rfl rfl rfl rfl hi (by simp [Value.oneCell']) ?_; intro wy hr6 hg6; replace own := own.kept hg6 (ownB_apart own (by omega)); replace hr5 := hr5.grown hg6 (by intro e; injection e with e; omega); replace hB := below_own hB hg6 hB.size (by omega)) | (refine wpList_store_blk rfl hr5 31 (.tmp 5) (.tmp 65) rfl rfl rfl rfl hj (by simp [Value.oneCell']) ?_; intro wz hr7 hg7; replace own := own.kept hg7 (ownB_apart own (by omega))))
    try rw [Exit.noGoto_ret]
    refine bodyPost_ret (results_cc rfl _ rfl rfl (load_blk (hr6.grown hg7 (by intro e; injection e with e; omega)) Try.underlying57 rfl hi) (load_blk hr7 Try.underlying31 rfl hj)) rfl ?_
    refine ⟨below_own hB hg7 hB.size (by omega), ?_⟩
    rw [spec.out]
    exact ⟨_, rfl, ownB_less own (by omega)⟩
  have sp3 := Lib.hid (sp2.out.trans (if_neg (by rw [hh]; decide)))
  by_cases hid : poI l = 0
  · have b4 : (poI l == 0) = true := by simpa using hid
    have spec := Lib.hid (sp3.out.trans (if_pos hid))
    replace hid := Lib.hid hid
    go_wp2_with fail
    have own := OwnB.nil w8 (w.heap.size + 2)
    refine (openFault_any w8 3 none 0 0).mono ?_
    rintro e wx ⟨rfl, hb⟩
    replace own := own.below hb
    replace hr4 := hr4.below hb hr4.lt
    replace hr5 := hr5.below hb hr5.lt
    replace hB := hB.trans (hb.mono hB.size)
    clear hb
    go_wp2_with (first | (refine wpList_store_blk rfl hr4 57 (.tmp 4) (.tmp 72) rfl rfl rfl rfl hi (by simp [Value.oneCell']) ?_; intro wy hr6 hg6; replace own := own.kept hg6 (ownB_apart own (by omega)); replace hr5 := hr5.grown hg6 (by intro e; injection e with e; omega); replace hB := below_own hB hg6 hB.size (by omega)) | (refine wpList_store_blk rfl hr5 31 (.tmp 5) (.tmp 73) rfl rfl rfl rfl hj (by simp [Value.oneCell']) ?_; intro wz hr7 hg7; replace own := own.kept hg7 (ownB_apart own (by omega))))
    try rw [Exit.noGoto_ret]
    refine bodyPost_ret (results_cc rfl _ rfl rfl (load_blk (hr6.grown hg7 (by intro e; injection e with e; omega)) Try.underlying57 rfl hi) (load_blk hr7 Try.underlying31 rfl hj)) rfl ?_
    refine ⟨below_own hB hg7 hB.size (by omega), ?_⟩
    rw [spec.out]
    exact ⟨_, rfl, ownB_less own (by omega)⟩
  have b4 : (poI l == 0) = false := by simpa using hid
  have sp4 := Lib.hid (sp3.out.trans (if_neg hid))
  replace hid := Lib.hid hid
  clear sp2 sp3
  go_wp2_with fail
  refine (left_any w8 g (poS5 l) hsrc5).mono ?_
  rintro e w9 ⟨rfl, rfl⟩
  by_cases hN : poN l = leftV (poS5 l)
  rotate_left
  · have b5 : (poN l != leftV (poS5 l)) = true := by simpa using hN
    have spec := Lib.hid (sp4.out.trans (if_pos hN))
    replace hN := Lib.hid hN
    go_wp2_with fail
    have own := OwnB.nil w8 (w.heap.size + 2)
    refine (openFault_any w8 0 none 0 0).mono ?_
    rintro e wx ⟨rfl, hb⟩
    replace own := own.below hb
    replace hr4 := hr4.below hb hr4.lt
    replace hr5 := hr5.below hb hr5.lt
    replace hB := hB.trans (hb.mono hB.size)
    clear hb
    go_wp2_with (first | (refine wpList_store_blk rfl hr4 57 (.tmp 4) (.tmp 81) rfl rfl rfl rfl hi (by simp [Value.oneCell']) ?_; intro wy hr6 hg6; replace own := own.kept hg6 (ownB_apart own (by omega)); replace hr5 := hr5.grown hg6 (by intro e; injection e with e; omega); replace hB := below_own hB hg6 hB.size (by omega)) | (refine wpList_store_blk rfl hr5 31 (.tmp 5) (.tmp 82) rfl rfl rfl rfl hj (by simp [Value.oneCell']) ?_; intro wz hr7 hg7; replace own := own.kept hg7 (ownB_apart own (by omega))))
    try rw [Exit.noGoto_ret]
    refine bodyPost_ret (results_cc rfl _ rfl rfl (load_blk (hr6.grown hg7 (by intro e; injection e with e; omega)) Try.underlying57 rfl hi) (load_blk hr7 Try.underlying31 rfl hj)) rfl ?_
    refine ⟨below_own hB hg7 hB.size (by omega), ?_⟩
    rw [spec.out]
    exact ⟨_, rfl, ownB_less own (by omega)⟩
  have b5 : (poN l != leftV (poS5 l)) = false := by simpa using hN
  have sp5 := Lib.hid (sp4.out.trans (if_neg (by simpa using hN)))
  replace hN := Lib.hid hN
  clear sp4
  go_wp2_with fail
  refine (params_any w8 g (poS5 l) hsrc5 he5.out hlim.out).mono ?_
  rintro e w9 ⟨hg9, hP⟩
  have hlt8 := hsrc5.lt
  replace hq := hq.grown hg9 (by intro e; injection e with e; omega)
  have hz89 := hg9.size
  clear hsrc5 q0 q1 q2 q3
  replace hr4 := hr4.grown hg9 (by simp; omega)
  replace hr5 := hr5.grown hg9 (by simp; omega)
  replace hB := below_own hB hg9 hB.size (by omega)
  clear hg9
  have lt9 := hq.lt
  cases hc : parS (poS5 l) with
  | error x =>
    rw [hc] at hP
    obtain rfl := hP
    have spec : Hid (parseO l p = .error (x, [])) := Lib.hid (by rw [sp5.out, hc])
    go_wp2_with fail
    have own := OwnB.nil w9 (w.heap.size + 2)
    refine (openFault_any w9 x none 0 0).mono ?_
    rintro e wx ⟨rfl, hb⟩
    replace own := own.below hb
    replace hr4 := hr4.below hb hr4.lt
    replace hr5 := hr5.below hb hr5.lt
    replace hB := hB.trans (hb.mono hB.size)
    clear hb
    go_wp2_with (first | (refine wpList_store_blk rfl hr4 57 (.tmp 4) (.tmp 94) rfl rfl rfl rfl hi (by simp [Value.oneCell']) ?_; intro wy hr6 hg6; replace own := own.kept hg6 (ownB_apart own (by omega)); replace hr5 := hr5.grown hg6 (by intro e; injection e with e; omega); replace hB := below_own hB hg6 hB.size (by omega)) | (refine wpList_store_blk rfl hr5 31 (.tmp 5) (.tmp 95) rfl rfl rfl rfl hj (by simp [Value.oneCell']) ?_; intro wz hr7 hg7; replace own := own.kept hg7 (ownB_apart own (by omega))))
    try rw [Exit.noGoto_ret]
    refine bodyPost_ret (results_cc rfl _ rfl rfl (load_blk (hr6.grown hg7 (by intro e; injection e with e; omega)) Try.underlying57 rfl hi) (load_blk hr7 Try.underlying31 rfl hj)) rfl ?_
    refine ⟨below_own hB hg7 hB.size (by omega), ?_⟩
    rw [spec.out]
    exact ⟨_, rfl, ownB_less own (by omega)⟩
  | ok ds =>
    rw [hc] at hP
    obtain ⟨v1, rs, rfl, hrow, hk⟩ := hP
    have spec : Hid (parseO l p = .ok (poA l, poH l, poI l, ds)) := Lib.hid (by rw [sp5.out, hc])
    obtain ⟨A1, c1, rfl, _, _, _⟩ := hrow.seen (Nat.le_refl _)
    have cc3 : w9.cell? ⟨gq, 3, none⟩ = some (.slice none 0 0) := hq.cellv 3 rfl
    have fz3 := hq.frozen 3
    obtain ⟨hq2, hgs⟩ := blk_store hq 3 (.slice A1 rs.length c1)
    have hrow2 := hrow.kept hgs (fun k e => by cases e; omega) (Nat.le_refl _)
    replace hr4 := hr4.grown hgs (by intro e; injection e with e; omega)
    replace hr5 := hr5.grown hgs (by intro e; injection e with e; omega)
    replace hB := below_own hB hgs hB.size (by omega)
    replace hq2 : Blk (w9.setCell ⟨gq, 3, none⟩ (.slice A1 rs.length c1)) gq 57 #[.int .i64 (poA l), .int .i64 (poH l), .int .u32 (poI l), .slice A1 rs.length c1] := hq2
    replace hk := Lib.hid hk
    replace sp5 := trivial
    clear hrow hq
    generalize hws : w9.setCell ⟨gq, 3, none⟩ (.slice A1 rs.length c1) = ws at *
    have hrow := hrow2
    have ltq2 := hq2.lt
    have q0 : ws.cell? ⟨gq, 0, none⟩ = some (.int .i64 (poA l)) := hq2.cellv 0 rfl
    have q1 : ws.cell? ⟨gq, 1, none⟩ = some (.int .i64 (poH l)) := hq2.cellv 1 rfl
    have q2 : ws.cell? ⟨gq, 2, none⟩ = some (.int .u32 (poI l)) := hq2.cellv 2 rfl
    have q3 : ws.cell? ⟨gq, 3, none⟩ = some (.slice A1 rs.length c1) := hq2.cellv 3 rfl
    go_wp2_with (first | (refine wpList_store_blk rfl hr4 57 (.tmp 4) (.tmp 98) rfl rfl rfl rfl hi (by simp [Value.oneCell']) ?_; intro wy hr6 hg6; replace hrow := hrow.kept hg6 (fun k e => by cases e; omega) (Nat.le_refl _); replace hr5 := hr5.grown hg6 (by intro e; injection e with e; omega); replace hB := below_own hB hg6 hB.size (by omega)) | (refine wpList_store_blk rfl hr5 31 (.tmp 5) (.tmp 99) rfl rfl rfl rfl hj (by simp [Value.oneCell']) ?_; intro wz hr7 hg7; replace hrow := hrow.kept hg7 (fun k e => by cases e; omega) (Nat.le_refl _)))
    try rw [Exit.noGoto_ret]
    refine bodyPost_ret (results_cc rfl _ rfl rfl (load_blk (hr6.grown hg7 (by intro e; injection e with e; omega)) Try.underlying57 rfl hi) (load_blk hr7 Try.underlying31 rfl hj)) rfl ?_
    refine ⟨below_own hB hg7 hB.size (by omega), ?_⟩
    rw [spec.out]
    exact ⟨_, rs, rfl, hrow.less (by omega) (by omega), hk.out⟩
end Go.Proofs.Ytlpplclhjkbjbaa
