/- attr: Parse. -/
import Derived.Test.YtfnclmacodchfaaAtO
namespace Go.Proofs.Ytfnclmacodchfaa
set_option linter.unusedVariables false
open Go.RowKit

theorem results_2c {P : Program} {fn : Func} {a b : Tmp} {ty tz : TypeId} {w : World} {ad ae : Addr} {v u : Value} (h : fn.results = #[.cell a ty, .cell b tz]) (tmps : Array Value) (ha : tmps.getD a undef = .pointer (some ad)) (hb : tmps.getD b undef = .pointer (some ae))
    (hl : (loadVar ty ad).run P w = .ok v w) (hm : (loadVar tz ae).run P w = .ok u w) : (results fn tmps).run P w = .ok (.tuple #[v, u]) w := by
  have ha2 := ha
  have hb2 := hb
  simp only [Array.getD_eq_getD_getElem?] at ha2 hb2
  simp [results, h, ha2, hb2, asAddr, hl, hm]
theorem ownB_far {w : World} {base n g : Nat} {v : Value} {l : List UInt8} (h : OwnB w base v n l) (hg : g < base) : v.ownBlock = none ∨ v.ownBlock ≠ some g := by
  cases hv : v.ownBlock with
  | none => exact .inl rfl
  | some k => exact .inr (by intro e; injection e with e; have := World.ownsRow.lt h k hv; omega)
def attZ : Array Value := attC 0 none 0 0 0 0 false
def ParseAP (w w' : World) (e : Ending) : Except (Int × List UInt8) AttV → Prop
  | .error x => ∃ v, e = .returned (.tuple #[.agg attZ, .agg #[.int .i64 3, .int .i64 x.1, v]]) ∧ OwnB w' w.heap.size v x.2.length x.2
  | .ok a => ∃ A n c, e = .returned (.tuple #[.agg (attC a.o A n c a.h a.m a.b), .agg zF]) ∧ Seen intK w' (fun b => w.heap.size ≤ b ∧ b < w'.heap.size) A n a.zs
set_option maxRecDepth 100000 in
set_option maxHeartbeats 8000000 in
theorem attrParse_any (w : World) (A : Option Addr) (n c : Nat) (l : List UInt8) (h : Byt w w.heap.size A n l) (hn : n ≤ 10000000) :
    Calls Try.prog 43 #[.slice A n c] w fun e w' => Below w.heap.size w w' ∧ ParseAP w w' e (parseA l) := by
  have hi : (Try.prog.info? 26).map (·.size) = some 5 := by kernel_rfl
  have hj : (Try.prog.info? 44).map (·.size) = some 3 := by kernel_rfl
  have hl := h.1
  have hB := ((Below.refl w.heap.size w).alloc (Nat.le_refl _) (.cells #[.int .i64 0, .slice none 0 0, .int .u32 0, .int .i64 0, .bool false] 26)).alloc (by simp) (.cells #[.int .i64 0, .int .i64 0, .slice none 0 0] 44)
  have hr4 := (Blk.new w 26 #[.int .i64 0, .slice none 0 0, .int .u32 0, .int .i64 0, .bool false]).alloc (.cells #[.int .i64 0, .int .i64 0, .slice none 0 0] 44)
  have hr5 : Blk ((w.alloc (.cells #[.int .i64 0, .slice none 0 0, .int .u32 0, .int .i64 0, .bool false] 26)).alloc (.cells #[.int .i64 0, .int .i64 0, .slice none 0 0] 44)) (w.heap.size + 1) 44 #[.int .i64 0, .int .i64 0, .slice none 0 0] := by
    have := Blk.new (w.alloc (.cells #[.int .i64 0, .slice none 0 0, .int .u32 0, .int .i64 0, .bool false] 26)) 44 #[.int .i64 0, .int .i64 0, .slice none 0 0]
    simpa using this
  have hz2 : ((w.alloc (.cells #[.int .i64 0, .slice none 0 0, .int .u32 0, .int .i64 0, .bool false] 26)).alloc (.cells #[.int .i64 0, .int .i64 0, .slice none 0 0] 44)).heap.size = w.heap.size + 2 := by simp
  replace h := h.nx hB
  go_enter Try.func43, Try.ntmps43
  go_upto_region 1 with (fail)
  generalize (w.alloc (.cells #[.int .i64 0, .slice none 0 0, .int .u32 0, .int .i64 0, .bool false] 26)).alloc (.cells #[.int .i64 0, .int .i64 0, .slice none 0 0] 44) = w2 at *
  replace hl := Lib.hid hl
  go_wp2_with fail
  refine (split_any w2 A n c l h hn).mono ?_
  rintro e w3 ⟨hb, hP⟩
  replace hr4 := hr4.below hb hr4.lt
  replace hr5 := hr5.below hb hr5.lt
  replace hB := hB.trans (hb.mono hB.size)
  have hz3 := hb.size
  cases hs : splitL ⟨l, 0, 0⟩ with
  | none =>
    rw [hs] at hP
    obtain rfl := hP
    have spec : parseA l = .error (1, []) := by unfold parseA; rw [hs]
    replace spec := Lib.hid spec
    replace hs := Lib.hid hs
    have hba := (Below.refl w3.heap.size w3).alloc (Nat.le_refl _) (.cells badF 44)
    have hf := Blk.new w3 44 badF
    replace hr4 := hr4.below hba hr4.lt
    replace hr5 := hr5.below hba hr5.lt
    replace hB := hB.trans (hba.mono hB.size)
    unfold badF at hf hba hr4 hr5 hB
    unfold badF
    clear hba
    go_upto_region 2 with (fail)
    generalize w3.alloc (.cells #[.int .i64 3, .int .i64 1, .slice none 0 0] 44) = w4 at *
    generalize w3.heap.size = g5 at *
    have ltf := hf.lt
    have c0 : w4.cell? ⟨g5, 0, none⟩ = some (.int .i64 3) := hf.cellv 0 rfl
    go_upto_region 3 with (fail)
    have own := OwnB.nil w4 (w.heap.size + 2)
    -- region 3: 0 1 2M 3M
    try refine wp_region_noPanic ?_
    have hs1r : (fun w' => ∀ _ : Unit, w'.heap[g5]? = w4.heap[g5]?) w4.drew := fun _ => rfl
    refine wp_region_held_drew (S := fun w' => ∀ _ : Unit, w'.heap[g5]? = w4.heap[g5]?) (by kernel_rfl) hs1r (fun _ => ?_)
    (refine held_takeA 0 (by rfl) ?_ (by kernel_rfl) (fun _ _ _ h => h) hs1r ?_ ?_; rotate_left; (focus (intro wq hSw; have hrd := hSw; go_simp; try with_reducible rfl; done)); try simp only [Act.put, List.setIfInBounds_toArray, List.set_cons_zero, List.set_cons_succ])
    (refine held_takeA 1 (by rfl) ?_ (by kernel_rfl) (fun _ _ _ h => h) hs1r ?_ ?_; rotate_left; (focus (intro wq hSw; refine exec_load_blk (x := .tmp 5) ?_ ?_ (show Blk wq g5 44 #[.int .i64 3, .int .i64 1, .slice none 0 0] from (hSw ()).trans hf) _ Try.underlying44 rfl (by kernel_rfl) <;> rfl)); simp only [Act.put, List.setIfInBounds_toArray, List.set_cons_zero, List.set_cons_succ])
    refine held_callA 2 (by rfl) (by kernel_rfl) (by rfl) (fun KQ hKQ => ?_)
    refine wp_store_blk hr4.drew 26 (.tmp 2) (.tmp 20) (by rfl) (by rfl) (by rfl) (by rfl) (by exact hi) (by simp [Value.oneCell']) ?_
    intro wy hr6 hg6
    replace own := own.drew.kept hg6 (ownB_far own.drew (by omega))
    replace hr5 := hr5.drew.grown hg6 (by intro e; injection e with e; omega)
    replace hB := below_own hB.drew hg6 hB.drew.size (by omega)
    have hk5 : ∀ _ : Unit, wy.heap[g5]? = w4.heap[g5]? := fun _ => hg6.block g5 ltf (by intro e; injection e with e; omega)
    have hs2r := hk5
    refine hKQ.out _ _ hs2r ?_
    clear hKQ KQ
    try simp only [Act.put]
    refine held_callA 3 (by rfl) (by kernel_rfl) (by rfl) (fun KQ hKQ => ?_)
    refine wp_store_blk hr5 44 (.tmp 3) (.tmp 21) (by rfl) (by rfl) (by rfl) (by rfl) (by exact hj) (by simp [Value.oneCell']) ?_
    intro wz hr7 hg7
    replace own := own.kept hg7 (ownB_far own (by omega))
    have hs6 := hg6.size
    have hk6 : ∀ _ : Unit, wz.heap[g5]? = w4.heap[g5]? := fun _ => (hg7.block g5 (Nat.lt_of_lt_of_le ltf hs6) (by intro e; injection e with e; omega)).trans (hk5 ())
    have hs3r := hk6
    refine hKQ.out _ _ hs3r ?_
    clear hKQ KQ
    try simp only [Act.put]
    refine wpAnyH_done (by kernel_rfl) ?_ _
    try refine NoPanic.normal ?_
    go_wp2_with fail
    skip
    try rw [Exit.noGoto_ret]
    refine bodyPost_ret (results_2c rfl _ rfl rfl (load_blk (hr6.grown hg7 (by intro e; injection e with e; omega)) Try.underlying26 rfl hi) (load_blk hr7 Try.underlying44 rfl hj)) rfl ?_
    refine ⟨below_own hB hg7 hB.size (by omega), ?_⟩
    rw [spec.out]
    exact ⟨_, rfl, OwnB.less own (by omega)⟩
  | some ds =>
    rw [hs] at hP
    obtain ⟨v3, rs, rfl, hrow, hk⟩ := hP
    obtain ⟨A3, c3, rfl, _, _, hS⟩ := hrow.seen (Nat.le_refl _)
    have hall := (splitL_ok hs).1
    have hlen := (splitL_ok hs).2
    have sp0 : parseA l = parseG ((rs.drop 0).map dat) [] att0 := by unfold parseA; rw [hs, ← hk]; rfl
    have hlen2 : rs.length ≤ 10000000 := by
      have e1 : rs.length = ds.length := by rw [← hk, List.length_map]
      have e2 : (⟨l, 0, 0⟩ : St).l.length = l.length := rfl
      have := hl.out
      omega
    rw [← hk] at hall
    replace hall := Lib.hid hall
    replace sp0 := Lib.hid sp0
    have hS2 := hS.more (S' := fun b => b < w3.heap.size) fun b hb => hb.2
    clear hk hs hrow hS hlen
    unfold zF
    have hb1 := (((Below.refl w3.heap.size w3).alloc (Nat.le_refl _) (.cells #[.int .i64 0, .int .i64 0, .slice none 0 0] 44)).alloc (by simp) (.cells #[.int .i64 0, .slice none 0 0, .int .u32 0, .int .i64 0, .bool false] 26))
    have ha0 : AttIn ((w3.alloc (.cells #[.int .i64 0, .int .i64 0, .slice none 0 0] 44)).alloc (.cells #[.int .i64 0, .slice none 0 0, .int .u32 0, .int .i64 0, .bool false] 26)) (w3.heap.size + 3) (w3.heap.size + 1) att0 := by
      have h2 : Blk ((w3.alloc (.cells #[.int .i64 0, .int .i64 0, .slice none 0 0] 44)).alloc (.cells #[.int .i64 0, .slice none 0 0, .int .u32 0, .int .i64 0, .bool false] 26)) (w3.heap.size + 1) 26 #[.int .i64 0, .slice none 0 0, .int .u32 0, .int .i64 0, .bool false] := by
        have := Blk.new (w3.alloc (.cells #[.int .i64 0, .int .i64 0, .slice none 0 0] 44)) 26 #[.int .i64 0, .slice none 0 0, .int .u32 0, .int .i64 0, .bool false]
        simpa using this
      exact ⟨none, 0, 0, h2, Seen.none_⟩
    have hm0 := Met.new ((w3.alloc (.cells #[.int .i64 0, .int .i64 0, .slice none 0 0] 44)).alloc (.cells #[.int .i64 0, .slice none 0 0, .int .u32 0, .int .i64 0, .bool false] 26))
    have hmz : ((w3.alloc (.cells #[.int .i64 0, .int .i64 0, .slice none 0 0] 44)).alloc (.cells #[.int .i64 0, .slice none 0 0, .int .u32 0, .int .i64 0, .bool false] 26)).heap.size = w3.heap.size + 2 := by simp
    have hb2 := (Below.refl ((w3.alloc (.cells #[.int .i64 0, .int .i64 0, .slice none 0 0] 44)).alloc (.cells #[.int .i64 0, .slice none 0 0, .int .u32 0, .int .i64 0, .bool false] 26)).heap.size ((w3.alloc (.cells #[.int .i64 0, .int .i64 0, .slice none 0 0] 44)).alloc (.cells #[.int .i64 0, .slice none 0 0, .int .u32 0, .int .i64 0, .bool false] 26))).alloc (Nat.le_refl _) (.cells Try.zeroCells116 116)
    replace ha0 := ha0.below hb2
    have hb3 := hb1.trans (hb2.mono hb1.size)
    rw [hmz] at hm0
    replace hr4 := hr4.below hb3 hr4.lt
    replace hr5 := hr5.below hb3 hr5.lt
    replace hB := hB.trans (hb3.mono hB.size)
    replace hS2 := hS2.below hb3 (fun _ h => h)
    have hmz3 : (((w3.alloc (.cells #[.int .i64 0, .int .i64 0, .slice none 0 0] 44)).alloc (.cells #[.int .i64 0, .slice none 0 0, .int .u32 0, .int .i64 0, .bool false] 26)).alloc (.cells Try.zeroCells116 116)).heap.size = w3.heap.size + 3 := by simp
    clear hb1 hb2 hb3 hmz hb
    go_upto_region 2 with (fail)
    go_upto_region 6 with (fail)
    generalize ((w3.alloc (.cells #[.int .i64 0, .int .i64 0, .slice none 0 0] 44)).alloc (.cells #[.int .i64 0, .slice none 0 0, .int .u32 0, .int .i64 0, .bool false] 26)).alloc (.cells Try.zeroCells116 116) = w4 at *
    have hzz : w4.heap.size = w3.heap.size + 3 := hmz3
    generalize hgf : w3.heap.size = gf at *
    have hg3 : w.heap.size + 2 ≤ gf := by omega
    replace hzz : gf + 3 ≤ w4.heap.size := by omega
    clear hmz3 hz3 hz2
    replace hgf := Lib.hid hgf
    go_wp2_with fail
    go_loopw [24] (fun i wr => ∃ (k : Nat) (ts : List Int) (a : AttV), k ≤ rs.length ∧ i = .int .i64 (k : Int) ∧ Met wr (gf + 1 + 1) ts ∧ AttIn wr (gf + 3) (gf + 1) a ∧ Seen rawK wr (fun b => b < gf) A3 rs.length rs ∧ Blk wr w.heap.size 26 #[.int .i64 0, .slice none 0 0, .int .u32 0, .int .i64 0, .bool false] ∧ Blk wr (w.heap.size + 1) 44 #[.int .i64 0, .int .i64 0, .slice none 0 0] ∧ Below w.heap.size w wr ∧ gf + 3 ≤ wr.heap.size ∧ parseA l = parseG ((rs.drop k).map dat) ts a) (fun i _ => rs.length - (intOf i).toNat)
    case atStart => exact ⟨0, [], att0, Nat.zero_le _, rfl, hm0, ha0, hS2, hr4, hr5, hB, hzz, sp0.out⟩
    case round =>
    clear hm0 ha0 hS2 hr4 hr5 hB hzz sp0
    obtain ⟨k, ts, a, hkl, rfl, hm, hA, hS, hr4, hr5, hB, hzz, hsp⟩ := hrel
    replace hsp := Lib.hid hsp
    by_cases hlt : k < rs.length
    rotate_left
    · have hdn : rs.drop k = [] := List.drop_of_length_le (by omega)
      rw [hdn] at hsp
      have hki : (rs.length : Int) ≤ k := by omega
      have m1 := hm.cell 1 (by omega)
      have m2 := hm.cell 2 (by omega)
      have m3 := hm.cell 3 (by omega)
      have hmlt := hm.lt
      replace hdn := Lib.hid hdn
      go_wp2_with fail
      refine (indexBool_any wr (gf + 1 + 1) _ _ _ m1 m2 m3 hmlt).mono ?_
      rintro e w5 ⟨rfl, rfl⟩
      have pg : parseG ([].map dat) ts a = if inB ts 1 = false then .error (3, [1]) else if inB ts 2 = false then .error (3, [2]) else if inB ts 3 = false then .error (3, [3]) else .ok a := rfl
      have hix : idx3 (inB ts ((1 : Nat) : Int)) (inB ts ((2 : Nat) : Int)) (inB ts ((3 : Nat) : Int)) = idx3 (inB ts 1) (inB ts 2) (inB ts 3) := rfl
      rw [hix]
      clear m1 m2 m3 hix
      cases e1 : inB ts 1
      · have hix : idx3 false (inB ts 2) (inB ts 3) = 0 := rfl
        have spec : parseA l = .error (3, [1]) := by rw [hsp.out, pg, if_pos e1]
        replace spec := Lib.hid spec
        rw [hix]
        have own := OwnB.lit (base := w.heap.size + 2) wr [1] (by omega) (by decide)
        have hba := (Below.refl wr.heap.size wr).alloc (Nat.le_refl _) (.cells (byCells [1]) 5)
        rw [show byCells [1] = #[.int .u8 1] from rfl] at own hba
        replace hr4 := hr4.below hba hr4.lt
        replace hr5 := hr5.below hba hr5.lt
        replace hB := hB.trans (hba.mono hB.size)
        replace own : OwnB (wr.alloc (.cells #[.int .u8 1] 5)) (w.heap.size + 2) (.slice (some ⟨wr.heap.size, 0, none⟩) 1 1) 1 [1] := own
        clear hba hix pg hsp e1
        generalize hx4 : wr.alloc (.cells #[.int .u8 1] 5) = x4 at *
        go_wp2_with (first | (refine wpList_store_blk rfl hr4 26 (.tmp 2) (.tmp 57) rfl rfl rfl rfl hi (by simp [Value.oneCell']) ?_; intro wy hr6 hg6; replace own := own.kept hg6 (ownB_far own (by omega)); replace hr5 := hr5.grown hg6 (by intro e; injection e with e; omega); replace hB := below_own hB hg6 hB.size (by omega)) | (refine wpList_store_blk rfl hr5 44 (.tmp 3) (.tmp 62) rfl rfl rfl rfl hj (by simp [Value.oneCell']) ?_; intro wz hr7 hg7; replace own := own.kept hg7 (ownB_far own (by omega))))
        try rw [Exit.noGoto_ret]
        refine bodyPost_ret (results_2c rfl _ rfl rfl (load_blk (hr6.grown hg7 (by intro e; injection e with e; omega)) Try.underlying26 rfl hi) (load_blk hr7 Try.underlying44 rfl hj)) rfl ?_
        refine ⟨below_own hB hg7 hB.size (by omega), ?_⟩
        rw [spec.out]
        exact ⟨_, rfl, OwnB.less own (by omega)⟩
      cases e2 : inB ts 2
      · have hix : idx3 true false (inB ts 3) = 1 := rfl
        have spec : parseA l = .error (3, [2]) := by rw [hsp.out, pg, if_neg (by rw [e1]; decide), if_pos e2]
        replace spec := Lib.hid spec
        rw [hix]
        have own := OwnB.lit (base := w.heap.size + 2) wr [2] (by omega) (by decide)
        have hba := (Below.refl wr.heap.size wr).alloc (Nat.le_refl _) (.cells (byCells [2]) 5)
        rw [show byCells [2] = #[.int .u8 2] from rfl] at own hba
        replace hr4 := hr4.below hba hr4.lt
        replace hr5 := hr5.below hba hr5.lt
        replace hB := hB.trans (hba.mono hB.size)
        replace own : OwnB (wr.alloc (.cells #[.int .u8 2] 5)) (w.heap.size + 2) (.slice (some ⟨wr.heap.size, 0, none⟩) 1 1) 1 [2] := own
        clear hba hix pg hsp e1 e2
        generalize hx4 : wr.alloc (.cells #[.int .u8 2] 5) = x4 at *
        go_wp2_with (first | (refine wpList_store_blk rfl hr4 26 (.tmp 2) (.tmp 57) rfl rfl rfl rfl hi (by simp [Value.oneCell']) ?_; intro wy hr6 hg6; replace own := own.kept hg6 (ownB_far own (by omega)); replace hr5 := hr5.grown hg6 (by intro e; injection e with e; omega); replace hB := below_own hB hg6 hB.size (by omega)) | (refine wpList_store_blk rfl hr5 44 (.tmp 3) (.tmp 62) rfl rfl rfl rfl hj (by simp [Value.oneCell']) ?_; intro wz hr7 hg7; replace own := own.kept hg7 (ownB_far own (by omega))))
        try rw [Exit.noGoto_ret]
        refine bodyPost_ret (results_2c rfl _ rfl rfl (load_blk (hr6.grown hg7 (by intro e; injection e with e; omega)) Try.underlying26 rfl hi) (load_blk hr7 Try.underlying44 rfl hj)) rfl ?_
        refine ⟨below_own hB hg7 hB.size (by omega), ?_⟩
        rw [spec.out]
        exact ⟨_, rfl, OwnB.less own (by omega)⟩
      cases e3 : inB ts 3
      · have hix : idx3 true true false = 2 := rfl
        have spec : parseA l = .error (3, [3]) := by rw [hsp.out, pg, if_neg (by rw [e1]; decide), if_neg (by rw [e2]; decide), if_pos e3]
        replace spec := Lib.hid spec
        rw [hix]
        have own := OwnB.lit (base := w.heap.size + 2) wr [3] (by omega) (by decide)
        have hba := (Below.refl wr.heap.size wr).alloc (Nat.le_refl _) (.cells (byCells [3]) 5)
        rw [show byCells [3] = #[.int .u8 3] from rfl] at own hba
        replace hr4 := hr4.below hba hr4.lt
        replace hr5 := hr5.below hba hr5.lt
        replace hB := hB.trans (hba.mono hB.size)
        replace own : OwnB (wr.alloc (.cells #[.int .u8 3] 5)) (w.heap.size + 2) (.slice (some ⟨wr.heap.size, 0, none⟩) 1 1) 1 [3] := own
        clear hba hix pg hsp e1 e2 e3
        generalize hx4 : wr.alloc (.cells #[.int .u8 3] 5) = x4 at *
        go_wp2_with (first | (refine wpList_store_blk rfl hr4 26 (.tmp 2) (.tmp 57) rfl rfl rfl rfl hi (by simp [Value.oneCell']) ?_; intro wy hr6 hg6; replace own := own.kept hg6 (ownB_far own (by omega)); replace hr5 := hr5.grown hg6 (by intro e; injection e with e; omega); replace hB := below_own hB hg6 hB.size (by omega)) | (refine wpList_store_blk rfl hr5 44 (.tmp 3) (.tmp 62) rfl rfl rfl rfl hj (by simp [Value.oneCell']) ?_; intro wz hr7 hg7; replace own := own.kept hg7 (ownB_far own (by omega))))
        try rw [Exit.noGoto_ret]
        refine bodyPost_ret (results_2c rfl _ rfl rfl (load_blk (hr6.grown hg7 (by intro e; injection e with e; omega)) Try.underlying26 rfl hi) (load_blk hr7 Try.underlying44 rfl hj)) rfl ?_
        refine ⟨below_own hB hg7 hB.size (by omega), ?_⟩
        rw [spec.out]
        exact ⟨_, rfl, OwnB.less own (by omega)⟩
      have hix : idx3 true true true = -1 := rfl
      have spec : parseA l = .ok a := by rw [hsp.out, pg, if_neg (by rw [e1]; decide), if_neg (by rw [e2]; decide), if_neg (by rw [e3]; decide)]
      replace spec := Lib.hid spec
      rw [hix]
      clear hix pg hsp e1 e2 e3
      obtain ⟨AP, np, cp, hq, hSP⟩ := hA
      unfold attC at hq
      have ltq := hq.lt
      have q0 : wr.cell? ⟨gf + 1, 0, none⟩ = some (.int .i64 a.o) := hq.cellv 0 rfl
      have q1 : wr.cell? ⟨gf + 1, 1, none⟩ = some (.slice AP np cp) := hq.cellv 1 rfl
      have q2 : wr.cell? ⟨gf + 1, 2, none⟩ = some (.int .u32 a.h) := hq.cellv 2 rfl
      have q3 : wr.cell? ⟨gf + 1, 3, none⟩ = some (.int .i64 a.m) := hq.cellv 3 rfl
      have q4 : wr.cell? ⟨gf + 1, 4, none⟩ = some (.bool a.b) := hq.cellv 4 rfl
      skip
      go_wp2_with (first | (refine wpList_store_blk rfl hr4 26 (.tmp 2) (.tmp 63) rfl rfl rfl rfl hi (by simp [Value.oneCell']) ?_; intro wy hr6 hg6; replace hSP := (hSP.grown hg6 (fun b hb => ⟨hb.2, by intro e; injection e with e; omega⟩)).more (S' := fun b => gf + 3 ≤ b ∧ b < wy.heap.size) (fun b hb => ⟨hb.1, Nat.lt_of_lt_of_le hb.2 hg6.size⟩); replace hr5 := hr5.grown hg6 (by intro e; injection e with e; omega); replace hB := below_own hB hg6 hB.size (by omega)) | (refine wpList_store_blk rfl hr5 44 (.tmp 3) (.tmp 64) rfl rfl rfl rfl hj (by simp [Value.oneCell']) ?_; intro wz hr7 hg7; replace hSP := (hSP.grown hg7 (fun b hb => ⟨hb.2, by intro e; injection e with e; omega⟩)).more (S' := fun b => gf + 3 ≤ b ∧ b < wz.heap.size) (fun b hb => ⟨hb.1, Nat.lt_of_lt_of_le hb.2 hg7.size⟩)))
      try rw [Exit.noGoto_ret]
      refine bodyPost_ret (results_2c rfl _ rfl rfl (load_blk (hr6.grown hg7 (by intro e; injection e with e; omega)) Try.underlying26 rfl hi) (load_blk hr7 Try.underlying44 rfl hj)) rfl ?_
      refine ⟨below_own hB hg7 hB.size (by omega), ?_⟩
      rw [spec.out]
      exact ⟨AP, np, cp, rfl, hSP.more fun b hb => ⟨by omega, hb.2⟩⟩
    obtain ⟨bb, off, r, rfl, hbb, hr, hrok, x0, x1, x2⟩ := raw_cells hS hlt
    have hki : (k : Int) < rs.length := by omega
    have hlb : bb < wr.heap.size := by omega
    have hro := hall.out (dat r) (List.mem_map.2 ⟨r, List.mem_of_getElem? hr, rfl⟩)
    obtain ⟨⟨rf0, rf1⟩, ⟨rt0, rt1⟩, rv⟩ := hro
    replace rt0 : 0 ≤ r.t := rt0
    replace rt1 : r.t ≤ 255 := rt1
    replace rv : r.v.length ≤ l.length := rv
    have hdk : (rs.drop k).map dat = dat r :: (rs.drop (k + 1)).map dat := by
      rw [List.drop_eq_getElem_cons hlt, List.map_cons]
      have : rs[k] = r := by have e := List.getElem?_eq_getElem hlt; rw [hr] at e; injection e with e; exact e.symm
      rw [this]
    rw [hdk] at hsp
    replace hdk := Lib.hid hdk
    obtain ⟨j, hj'⟩ : ∃ j : Nat, r.t = (j : Int) := ⟨r.t.toNat, by omega⟩
    have hj2 : j < 256 := by omega
    have hji : (j : Int) < 256 := by omega
    rw [hj'] at x1
    have hda : dat r = (r.f, (j : Int), r.v) := by unfold dat; rw [hj']
    rw [hda] at hsp
    replace hj' := Lib.hid hj'
    replace hda := Lib.hid hda
    replace hr := Lib.hid hr
    have hba := (Below.refl wr.heap.size wr).alloc (Nat.le_refl _) (.cells #[.int .i64 r.f, .int .i64 (j : Int), .slice r.A r.n r.c] 90)
    have hu := Blk.new wr 90 #[.int .i64 r.f, .int .i64 (j : Int), .slice r.A r.n r.c]
    have hrok2 : rawK.ok (wr.alloc (.cells #[.int .i64 r.f, .int .i64 (j : Int), .slice r.A r.n r.c] 90)) (fun b => b < gf) r := rawK.keep hrok fun p hp => hba.cell (by have : p.block < gf := hp; omega)
    have hm2 := hm.below hba
    have hA2 := hA.below hba
    have hS2 := hS.below hba (fun b hb => by omega)
    have hr42 := hr4.below hba hr4.lt
    have hr52 := hr5.below hba hr5.lt
    have hB2 := hB.trans (hba.mono hB.size)
    have hzu := hba.size
    clear hrok hm hA hS hr4 hr5 hB
    go_upto_region 9 with (fail)
    generalize wr.alloc (.cells #[.int .i64 r.f, .int .i64 (j : Int), .slice r.A r.n r.c] 90) = wu at *
    generalize hgu : wr.heap.size = gu at *
    have ltu := hu.lt
    have u1 : wu.cell? ⟨gu, 1, none⟩ = some (.int .i64 (j : Int)) := hu.cellv 1 rfl
    have mj := hm2.cell j hj2
    have mlt := hm2.lt
    have mfz := hm2.frozen j
    have hr4 := hr42
    have hr5 := hr52
    have hB := hB2
    clear hr42 hr52 hB2
    cases hmet : inB ts (j : Int)
    rotate_left
    · rw [hmet] at mj
      have spec : parseA l = .error (1, []) := by rw [hsp.out, parseG_met hmet]
      replace spec := Lib.hid spec
      replace hmet := Lib.hid hmet
      have own := OwnB.nil wu (w.heap.size + 2)
      go_wp2_with (first | (refine wpList_store_blk rfl hr4 26 (.tmp 2) (.tmp 32) rfl rfl rfl rfl hi (by simp [Value.oneCell']) ?_; intro wy hr6 hg6; replace own := own.kept hg6 (ownB_far own (by omega)); replace hr5 := hr5.grown hg6 (by intro e; injection e with e; omega); replace hB := below_own hB hg6 hB.size (by omega)) | (refine wpList_store_blk rfl hr5 44 (.tmp 3) (.tmp 33) rfl rfl rfl rfl hj (by simp [Value.oneCell']) ?_; intro wz hr7 hg7; replace own := own.kept hg7 (ownB_far own (by omega))))
      try rw [Exit.noGoto_ret]
      refine bodyPost_ret (results_2c rfl _ rfl rfl (load_blk (hr6.grown hg7 (by intro e; injection e with e; omega)) Try.underlying26 rfl hi) (load_blk hr7 Try.underlying44 rfl hj)) rfl ?_
      refine ⟨below_own hB hg7 hB.size (by omega), ?_⟩
      rw [spec.out]
      exact ⟨_, rfl, OwnB.less own (by omega)⟩
    rw [hmet] at mj
    obtain ⟨hm3, hgm⟩ := hm2.set_ j hj2
    go_upto_region 12 with (fail)
    generalize wu.setCell ⟨gf + 1 + 1, j, none⟩ (.bool true) = wv at *
    have hA3 := hA2.kept hgm (by omega) (by omega)
    have hS3 := hS2.grown hgm (fun b hb => ⟨by omega, by intro e; injection e with e; omega⟩)
    have hu3 := hu.grown hgm (by intro e; injection e with e; omega)
    replace hr4 := hr4.grown hgm (by intro e; injection e with e; omega)
    replace hr5 := hr5.grown hgm (by intro e; injection e with e; omega)
    replace hB := below_own hB hgm hB.size (by omega)
    have hrok3 : rawK.ok wv (fun b => b < gf) r := rawK.keep hrok2 fun p hp => by
      have hp2 : p.block < gf := hp
      unfold World.cell?
      rw [hgm.block p.block (by omega) (by intro e; injection e with e; omega)]
    have hzv := hgm.size
    clear hm2 hA2 hS2 hu hrok2 hgm mj mfz u1 mlt
    have ltu3 := hu3.lt
    have y0 : wv.cell? ⟨gu, 0, none⟩ = some (.int .i64 r.f) := hu3.cellv 0 rfl
    have y1 : wv.cell? ⟨gu, 1, none⟩ = some (.int .i64 (j : Int)) := hu3.cellv 1 rfl
    have y2 : wv.cell? ⟨gu, 2, none⟩ = some (.slice r.A r.n r.c) := hu3.cellv 2 rfl
    have hbyv : Byt wv wv.heap.size r.A r.n r.v := hrok3.2.2.byt fun b hb => by omega
    have hrn : r.n ≤ 10000000 := by have e1 := hrok3.2.2.1; have := hl.out; omega
    go_wp2_with fail
    refine (attrTake_any wv (gf + 3) (gf + 1) a r.f (j : Int) r.A r.n r.c r.v hA3 (by omega) (by omega) hbyv hrok3.1 hrok3.2.1 hrn).mono ?_
    rintro e w6 ⟨hg6, hP⟩
    replace hr4 := hr4.grown hg6 (by intro e; injection e with e; omega)
    replace hr5 := hr5.grown hg6 (by intro e; injection e with e; omega)
    replace hB := below_own hB hg6 hB.size (by omega)
    have hm4 := hm3.grown hg6 (by intro e; injection e with e; omega)
    have hS4 := hS3.grown hg6 (fun b hb => ⟨by omega, by intro e; injection e with e; omega⟩)
    have hu4 := hu3.grown hg6 (by intro e; injection e with e; omega)
    have hrok4 : rawK.ok w6 (fun b => b < gf) r := rawK.keep hrok3 fun p hp => by
      have hp2 : p.block < gf := hp
      unfold World.cell?
      rw [hg6.block p.block (by omega) (by intro e; injection e with e; omega)]
    have hz6 := hg6.size
    clear hm3 hA3 hS3 hu3 hg6 y0 y1 y2 hbyv hrok3
    cases ht : takeS a r.f (j : Int) r.v with
    | ok a' =>
      rw [ht] at hP
      obtain ⟨rfl, hA6⟩ := hP
      have hnext : parseA l = parseG ((rs.drop (k + 1)).map dat) ((j : Int) :: ts) a' := by rw [hsp.out, parseG_go hmet ht]
      replace hnext := Lib.hid hnext
      replace ht := Lib.hid ht
      replace hmet := Lib.hid hmet
      go_wp2_with fail
      refine ⟨⟨k + 1, _, a', by omega, by go_num, hm4, hA6, hS4, hr4, hr5, hB, by omega, hnext.out⟩, ?_⟩
      simp [intOf]; omega
    | error x =>
      rw [ht] at hP
      obtain ⟨rfl, hx0⟩ := hP
      have bx0 : (x == 0) = false := by simpa using hx0
      replace hx0 := Lib.hid hx0
      by_cases h11 : x = 11
      · have bx : (x == 11) = true := by simpa using h11
        have spec : parseA l = .error (x, []) := by rw [hsp.out, parseG_no hmet ht, if_pos h11]
        replace spec := Lib.hid spec
        replace ht := Lib.hid ht
        replace hmet := Lib.hid hmet
        replace h11 := Lib.hid h11
        have own := OwnB.nil w6 (w.heap.size + 2)
        go_wp2_with (first | (refine wpList_store_blk rfl hr4 26 (.tmp 2) (.tmp 49) rfl rfl rfl rfl hi (by simp [Value.oneCell']) ?_; intro wy hr6 hg6; replace own := own.kept hg6 (ownB_far own (by omega)); replace hr5 := hr5.grown hg6 (by intro e; injection e with e; omega); replace hB := below_own hB hg6 hB.size (by omega)) | (refine wpList_store_blk rfl hr5 44 (.tmp 3) (.tmp 51) rfl rfl rfl rfl hj (by simp [Value.oneCell']) ?_; intro wz hr7 hg7; replace own := own.kept hg7 (ownB_far own (by omega))))
        try rw [Exit.noGoto_ret]
        refine bodyPost_ret (results_2c rfl _ rfl rfl (load_blk (hr6.grown hg7 (by intro e; injection e with e; omega)) Try.underlying26 rfl hi) (load_blk hr7 Try.underlying44 rfl hj)) rfl ?_
        refine ⟨below_own hB hg7 hB.size (by omega), ?_⟩
        rw [spec.out]
        exact ⟨_, rfl, OwnB.less own (by omega)⟩
      have bx : (x == 11) = false := by simpa using h11
      have spec : parseA l = .error (x, oneL r.f (j : Int) r.v) := by rw [hsp.out, parseG_no hmet ht, if_neg h11]
      replace spec := Lib.hid spec
      replace ht := Lib.hid ht
      replace hmet := Lib.hid hmet
      replace h11 := Lib.hid h11
      have ltu4 := hu4.lt
      have y0 : w6.cell? ⟨gu, 0, none⟩ = some (.int .i64 r.f) := hu4.cellv 0 rfl
      have y1 : w6.cell? ⟨gu, 1, none⟩ = some (.int .i64 (j : Int)) := hu4.cellv 1 rfl
      have y2 : w6.cell? ⟨gu, 2, none⟩ = some (.slice r.A r.n r.c) := hu4.cellv 2 rfl
      have hrok5 : rawK.ok w6 (fun b => b < w6.heap.size) ⟨r.f, (j : Int), r.A, r.n, r.c, r.v⟩ := rawK.more (a := ⟨r.f, (j : Int), r.A, r.n, r.c, r.v⟩) (S := fun b => b < gf) hrok4 (fun b hb => by omega)
      go_wp2_with fail
      refine (rawBytes_any w6 ⟨r.f, (j : Int), r.A, r.n, r.c, r.v⟩ hrok5).mono ?_
      rintro e w7 ⟨v7, rfl, own, hb7⟩
      replace own := own.less (show w.heap.size + 2 ≤ w6.heap.size by omega)
      replace hr4 := hr4.below hb7 hr4.lt
      replace hr5 := hr5.below hb7 hr5.lt
      replace hB := hB.trans (hb7.mono hB.size)
      obtain ⟨A7, c7, rfl, _, _, _, _⟩ := own.any2
      go_wp2_with (first | (refine wpList_store_blk rfl hr4 26 (.tmp 2) (.tmp 40) rfl rfl rfl rfl hi (by simp [Value.oneCell']) ?_; intro wy hr6 hg6; replace own := own.kept hg6 (ownB_far own (by omega)); replace hr5 := hr5.grown hg6 (by intro e; injection e with e; omega); replace hB := below_own hB hg6 hB.size (by omega)) | (refine wpList_store_blk rfl hr5 44 (.tmp 3) (.tmp 44) rfl rfl rfl rfl hj (by simp [Value.oneCell']) ?_; intro wz hr7 hg7; replace own := own.kept hg7 (ownB_far own (by omega))))
      try rw [Exit.noGoto_ret]
      refine bodyPost_ret (results_2c rfl _ rfl rfl (load_blk (hr6.grown hg7 (by intro e; injection e with e; omega)) Try.underlying26 rfl hi) (load_blk hr7 Try.underlying44 rfl hj)) rfl ?_
      refine ⟨below_own hB hg7 hB.size (by omega), ?_⟩
      rw [spec.out]
      exact ⟨_, rfl, OwnB.less own (by omega)⟩
end Go.Proofs.Ytfnclmacodchfaa
