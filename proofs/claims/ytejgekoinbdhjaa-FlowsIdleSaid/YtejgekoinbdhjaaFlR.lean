/- flows: plain laws for FlowsIdle; the walk. -/
import Derived.Test.YtejgekoinbdhjaaFlP
import Derived.Test.YtejgekoinbdhjaaOpen3
import Derived.Test.YtejgekoinbdhjaaOpen4
namespace Go.Proofs.Ytejgekoinbdhjaa
set_option linter.unusedVariables false
open Go Go.RowKit Go.Maps

/-- what there is at T: f was used just now, g at 0. -/
def IdleP (f g : Flo) (n T : Int) (E : List EnV) : Prop :=
  (T ≤ n ∧ (E = [⟨f, 1, T⟩, ⟨g, 2, 0⟩] ∨ E = [⟨g, 2, 0⟩, ⟨f, 1, T⟩])) ∨ (n < T ∧ E = [⟨f, 1, T⟩])
theorem idle_step {f g : Flo} {n T d : Int} {E : List EnV} (h : IdleP f g n T E) (hfg : f ≠ g) (h0 : 0 ≤ d) (h1 : d ≤ n) (hT : 0 ≤ T) :
    ∃ E2, getN (E.filter fun x => !(soE (T + d) n x)) f (T + d) = (1, true, E2) ∧ IdleP f g n (T + d) E2 ∧ (peekN E2 g).2 = decide (T + d ≤ n) := by
  have sf : soE (T + d) n ⟨f, 1, T⟩ = false := by unfold soE; simp; omega
  have yf : ∀ b t, isF f ⟨f, b, t⟩ = true := fun _ _ => isF_yes rfl
  have yg : ∀ b t, isF g ⟨g, b, t⟩ = true := fun _ _ => isF_yes rfl
  have nf : ∀ b t, isF f ⟨g, b, t⟩ = false := fun _ _ => isF_no fun e => hfg e.symm
  have ng : ∀ b t, isF g ⟨f, b, t⟩ = false := fun _ _ => isF_no fun e => hfg e
  by_cases hle : T + d ≤ n
  · have sg : soE (T + d) n ⟨g, 2, 0⟩ = false := by unfold soE; simp; omega
    refine ⟨[⟨g, 2, 0⟩, ⟨f, 1, T + d⟩], ?_, .inl ⟨hle, .inr rfl⟩, ?_⟩
    · rcases h with ⟨_, rfl | rfl⟩ | ⟨h2, _⟩
      · simp [sf, sg, getN, keepF, yf, nf]
      · simp [sf, sg, getN, keepF, yf, nf]
      · omega
    · simp [peekN, yg, hle]
  · have sg : soE (T + d) n ⟨g, 2, 0⟩ = true := by unfold soE; simp; omega
    refine ⟨[⟨f, 1, T + d⟩], ?_, .inr ⟨by omega, rfl⟩, ?_⟩
    · rcases h with ⟨_, rfl | rfl⟩ | ⟨h2, rfl⟩ <;> simp [sf, sg, getN, keepF, yf]
    · simp [peekN, ng, hle]
theorem flow5 : (Try.prog.info? 57).map (·.size) = some 5 := by kernel_rfl
set_option maxRecDepth 100000 in
set_option maxHeartbeats 8000000 in
theorem idle29_walk (idl : Int) (A : Option Addr) (n c : Nat) (bs : List UInt8) (f h : Flo) (w : World) (_wi : (Lit.int .u8 idl).wf = true) (hc : n ≤ c) (hm : c ≤ maxLen) (hS : Byt w w.heap.size A n bs) (hf : FloOk f) (hh : FloOk h) :
    Calls Try.prog 7 #[.int .u8 idl, .slice A n c, .agg #[.int .i64 f.pr, .int .u32 f.src, .int .u32 f.dst, .int .i64 f.sp, .int .i64 f.dp, .int .i64 h.pr, .int .u32 h.src, .int .u32 h.dst, .int .i64 h.sp, .int .i64 h.dp]] w fun e w' => e = .returned (.bool true) ∧ Below w.heap.size w w' := by
  have hB1 := (Below.refl w.heap.size w).alloc (Nat.le_refl _) (.cells #[.int .i64 f.pr, .int .u32 f.src, .int .u32 f.dst, .int .i64 f.sp, .int .i64 f.dp, .int .i64 h.pr, .int .u32 h.src, .int .u32 h.dst, .int .i64 h.sp, .int .i64 h.dp] 58)
  have ha := Blk.new w 58 #[.int .i64 f.pr, .int .u32 f.src, .int .u32 f.dst, .int .i64 f.sp, .int .i64 f.dp, .int .i64 h.pr, .int .u32 h.src, .int .u32 h.dst, .int .i64 h.sp, .int .i64 h.dp]
  go_enter Try.func7, Try.ntmps7
  go_upto_region 1 with (fail)
  generalize w.alloc (.cells #[.int .i64 f.pr, .int .u32 f.src, .int .u32 f.dst, .int .i64 f.sp, .int .i64 f.dp, .int .i64 h.pr, .int .u32 h.src, .int .u32 h.dst, .int .i64 h.sp, .int .i64 h.dp] 58) = w1 at *
  have lta := ha.lt
  have hz1 := hB1.size
  have a0 : w1.cell? ⟨w.heap.size, 0, none⟩ = some (.int .i64 f.pr) := ha.cellv 0 rfl
  have a1 : w1.cell? ⟨w.heap.size, 1, none⟩ = some (.int .u32 f.src) := ha.cellv 1 rfl
  have a2 : w1.cell? ⟨w.heap.size, 2, none⟩ = some (.int .u32 f.dst) := ha.cellv 2 rfl
  have a3 : w1.cell? ⟨w.heap.size, 3, none⟩ = some (.int .i64 f.sp) := ha.cellv 3 rfl
  have a4 : w1.cell? ⟨w.heap.size, 4, none⟩ = some (.int .i64 f.dp) := ha.cellv 4 rfl
  have a5 : w1.cell? ⟨w.heap.size, 5, none⟩ = some (.int .i64 h.pr) := ha.cellv 5 rfl
  have a6 : w1.cell? ⟨w.heap.size, 6, none⟩ = some (.int .u32 h.src) := ha.cellv 6 rfl
  have a7 : w1.cell? ⟨w.heap.size, 7, none⟩ = some (.int .u32 h.dst) := ha.cellv 7 rfl
  have a8 : w1.cell? ⟨w.heap.size, 8, none⟩ = some (.int .i64 h.sp) := ha.cellv 8 rfl
  have a9 : w1.cell? ⟨w.heap.size, 9, none⟩ = some (.int .i64 h.dp) := ha.cellv 9 rfl
  -- region 1: 0 1 2 3 4M 5M 6M 7M
  try refine wp_region_noPanic ?_
  have hs1r : Below w1.heap.size w1 w1.drew := (Below.refl _ _).drew
  refine wp_region_held_drew (S := fun w' => Below w1.heap.size w1 w') (by kernel_rfl) hs1r (fun _ => ?_)
  (refine held_takeA 0 (by rfl) ?_ (by kernel_rfl) (fun _ _ _ h => h) hs1r ?_ ?_; rotate_left; (focus (intro wq hSw; have hrd : ∀ b o, b < w1.heap.size → wq.cell? ⟨b, o, none⟩ = w1.cell? ⟨b, o, none⟩ := (fun b o h => hSw.cell (p := ⟨b, o, none⟩) h); go_simp; try with_reducible rfl; done)); try simp only [Act.put, List.setIfInBounds_toArray, List.set_cons_zero, List.set_cons_succ])
  (refine held_takeA 1 (by rfl) ?_ (by kernel_rfl) (fun _ _ _ h => h) hs1r ?_ ?_; rotate_left; (focus (intro wq hSw; have hrd : ∀ b o, b < w1.heap.size → wq.cell? ⟨b, o, none⟩ = w1.cell? ⟨b, o, none⟩ := (fun b o h => hSw.cell (p := ⟨b, o, none⟩) h); go_simp; try with_reducible rfl; done)); try simp only [Act.put, List.setIfInBounds_toArray, List.set_cons_zero, List.set_cons_succ])
  (refine held_takeA 2 (by rfl) ?_ (by kernel_rfl) (fun _ _ _ h => h) hs1r ?_ ?_; rotate_left; (focus (intro wq hSw; have hrd : ∀ b o, b < w1.heap.size → wq.cell? ⟨b, o, none⟩ = w1.cell? ⟨b, o, none⟩ := (fun b o h => hSw.cell (p := ⟨b, o, none⟩) h); go_simp; try with_reducible rfl; done)); try simp only [Act.put, List.setIfInBounds_toArray, List.set_cons_zero, List.set_cons_succ])
  (refine held_takeA 3 (by rfl) ?_ (by kernel_rfl) (fun _ _ _ h => h) hs1r ?_ ?_; rotate_left; (focus (intro wq hSw; have hrd : ∀ b o, b < w1.heap.size → wq.cell? ⟨b, o, none⟩ = w1.cell? ⟨b, o, none⟩ := (fun b o h => hSw.cell (p := ⟨b, o, none⟩) h); go_simp; try with_reducible rfl; done)); try simp only [Act.put, List.setIfInBounds_toArray, List.set_cons_zero, List.set_cons_succ])
  refine held_two 4 5 (by rfl) (by rfl) (by kernel_rfl) (by rfl) (by rfl) (fun KQ hKQ => ?_) (fun KQ hKQ => ?_)
  · skip
    go_simp
    have hb2 : Below w1.heap.size w1 (w1.drew.alloc (.cells #[.int .i64 0, .int .u32 0, .int .u32 0, .int .i64 0, .int .i64 0] 57)) := (Below.refl w1.heap.size w1).drew.alloc (Nat.le_refl _) (.cells #[.int .i64 0, .int .u32 0, .int .u32 0, .int .i64 0, .int .i64 0] 57)
    have hp : Blk (w1.drew.alloc (.cells #[.int .i64 0, .int .u32 0, .int .u32 0, .int .i64 0, .int .i64 0] 57)) w1.heap.size 57 #[.int .i64 0, .int .u32 0, .int .u32 0, .int .i64 0, .int .i64 0] := Blk.new w1.drew 57 #[.int .i64 0, .int .u32 0, .int .u32 0, .int .i64 0, .int .i64 0]
    have hd : (w1.alloc (.cells #[.int .i64 0, .int .u32 0, .int .u32 0, .int .i64 0, .int .i64 0] 57)).drew = w1.drew.alloc (.cells #[.int .i64 0, .int .u32 0, .int .u32 0, .int .i64 0, .int .i64 0] 57) := rfl
    try rw [hd]
    clear hd
    have hz2 : Hid ((w1.drew.alloc (.cells #[.int .i64 0, .int .u32 0, .int .u32 0, .int .i64 0, .int .i64 0] 57)).heap.size = w1.heap.size + 1) := by unfold Hid; simp
    generalize w1.drew.alloc (.cells #[.int .i64 0, .int .u32 0, .int .u32 0, .int .i64 0, .int .i64 0] 57) = w2 at *
    have hs2r := hb2
    refine hKQ.out _ _ hs2r ?_
    clear hKQ KQ
    try simp only [Act.put, List.setIfInBounds_toArray, List.set_cons_zero, List.set_cons_succ]
    refine held_callA 5 (by rfl) (by kernel_rfl) (by rfl) (fun KQ hKQ => ?_)
    go_simp
    have hb3 : Below w1.heap.size w1 (w2.alloc (.cells #[.int .i64 0, .int .u32 0, .int .u32 0, .int .i64 0, .int .i64 0] 57)) := hb2.alloc hb2.size (.cells #[.int .i64 0, .int .u32 0, .int .u32 0, .int .i64 0, .int .i64 0] 57)
    have hq : Blk (w2.alloc (.cells #[.int .i64 0, .int .u32 0, .int .u32 0, .int .i64 0, .int .i64 0] 57)) w2.heap.size 57 #[.int .i64 0, .int .u32 0, .int .u32 0, .int .i64 0, .int .i64 0] := Blk.new w2 57 #[.int .i64 0, .int .u32 0, .int .u32 0, .int .i64 0, .int .i64 0]
    replace hp := hp.alloc (.cells #[.int .i64 0, .int .u32 0, .int .u32 0, .int .i64 0, .int .i64 0] 57)
    have hz3 : Hid ((w2.alloc (.cells #[.int .i64 0, .int .u32 0, .int .u32 0, .int .i64 0, .int .i64 0] 57)).heap.size = w2.heap.size + 1) := by unfold Hid; simp
    generalize w2.alloc (.cells #[.int .i64 0, .int .u32 0, .int .u32 0, .int .i64 0, .int .i64 0] 57) = w3 at *
    have hs3r := hb3
    refine hKQ.out _ _ hs3r ?_
    clear hKQ KQ
    try simp only [Act.put, List.setIfInBounds_toArray, List.set_cons_zero, List.set_cons_succ]
    refine held_callA 6 (by rfl) (by kernel_rfl) (by rfl) (fun KQ hKQ => ?_)
    refine wp_store_blk hp 57 (.tmp 7) (.tmp 19) (by rfl) (by rfl) (by rfl) (by rfl) (by exact flow5) (by simp [Value.oneCell']) ?_
    intro w4 hp4 hg4
    have hb4 := below_own hb3 hg4 hb3.size (by have := hz2.out; omega)
    have hq4 := hq.grown hg4 (by have := hz2.out; simp; omega)
    have hs4r := hb4
    refine hKQ.out _ _ hs4r ?_
    clear hKQ KQ
    try simp only [Act.put]
    refine held_callA 7 (by rfl) (by kernel_rfl) (by rfl) (fun KQ hKQ => ?_)
    refine wp_store_blk hq4 57 (.tmp 8) (.tmp 21) (by rfl) (by rfl) (by rfl) (by rfl) (by exact flow5) (by simp [Value.oneCell']) ?_
    intro w5 hq5 hg5
    have hb5 := below_own hb4 hg5 hb4.size (by have := hz2.out; omega)
    have hp5 := hp4.grown hg5 (by have := hz2.out; simp; omega)
    have hs5r := hb5
    refine hKQ.out _ _ hs5r ?_
    clear hKQ KQ
    try simp only [Act.put]
    refine wpAnyH_done (by kernel_rfl) ?_ _
    try refine NoPanic.normal ?_
    have hB5 : Below w.heap.size w w5 := hB1.trans (hb5.mono hz1)
    obtain ⟨pb, hpb⟩ : ∃ pb, pb = w1.heap.size := ⟨_, rfl⟩
    obtain ⟨qb, hqb⟩ : ∃ qb, qb = w2.heap.size := ⟨_, rfl⟩
    rw [← hpb] at hp5
    rw [← hqb] at hq5
    rw [← hpb, ← hqb]
    have hlo : w.heap.size ≤ pb ∧ w.heap.size ≤ qb := by have := hz2.out; omega
    clear hp hq hp4 hg4 hq4 hg5 hb2 hb3 hb4 hb5 hB1 ha a0 a1 a2 a3 a4 a5 a6 a7 a8 a9 lta hz1 hz2 hz3 hpb hqb
    obtain ⟨p0, p1, p2, p3, p4, ltp⟩ : w5.cell? ⟨pb, 0, none⟩ = some (.int .i64 f.pr) ∧ w5.cell? ⟨pb, 1, none⟩ = some (.int .u32 f.src) ∧ w5.cell? ⟨pb, 2, none⟩ = some (.int .u32 f.dst) ∧ w5.cell? ⟨pb, 3, none⟩ = some (.int .i64 f.sp) ∧ w5.cell? ⟨pb, 4, none⟩ = some (.int .i64 f.dp) ∧ pb < w5.heap.size := ⟨hp5.cellv 0 rfl, hp5.cellv 1 rfl, hp5.cellv 2 rfl, hp5.cellv 3 rfl, hp5.cellv 4 rfl, hp5.lt⟩
    obtain ⟨q0, q1, q2, q3, q4, ltq⟩ : w5.cell? ⟨qb, 0, none⟩ = some (.int .i64 h.pr) ∧ w5.cell? ⟨qb, 1, none⟩ = some (.int .u32 h.src) ∧ w5.cell? ⟨qb, 2, none⟩ = some (.int .u32 h.dst) ∧ w5.cell? ⟨qb, 3, none⟩ = some (.int .i64 h.sp) ∧ w5.cell? ⟨qb, 4, none⟩ = some (.int .i64 h.dp) ∧ qb < w5.heap.size := ⟨hq5.cellv 0 rfl, hq5.cellv 1 rfl, hq5.cellv 2 rfl, hq5.cellv 3 rfl, hq5.cellv 4 rfl, hq5.lt⟩
    by_cases hbig : 200 < n
    · have d1 : decide ((200 : Int) < n) = true := by simp; omega
      go_wp2_with (go_at_call 38; refine (lives29_any _).mono ?_; rintro en w6 ⟨rfl, hb⟩)
      go_ret
      exact ⟨rfl, hB5.trans (hb.mono hB5.size)⟩
    have d1 : decide ((200 : Int) < n) = false := by simp; omega
    by_cases hfh : f = h
    · have de : decide (Flo.mk f.pr f.src f.dst f.sp f.dp = Flo.mk h.pr h.src h.dst h.sp h.dp) = true := decide_eq_true hfh
      have de2 : f.pr = h.pr ∧ f.src = h.src ∧ f.dst = h.dst ∧ f.sp = h.sp ∧ f.dp = h.dp := by rw [hfh]; exact ⟨rfl, rfl, rfl, rfl, rfl⟩
      obtain ⟨x1, x2, x3, x4, x5⟩ := de2
      rw [← x1] at q0
      rw [← x2] at q1
      rw [← x3] at q2
      rw [← x4] at q3
      rw [← x5] at q4
      clear de x1 x2 x3 x4 x5 hfh
      go_wp2_with (go_at_call 38; refine (lives29_any _).mono ?_; rintro en w6 ⟨rfl, hb⟩)
      go_ret
      exact ⟨rfl, hB5.trans (hb.mono hB5.size)⟩
    have de : decide (Flo.mk f.pr f.src f.dst f.sp f.dp = Flo.mk h.pr h.src h.dst h.sp h.dp) = false := decide_eq_false hfh
    have hi := _wi
    simp only [Lit.wf, Bool.and_eq_true, decide_eq_true_eq] at hi
    replace hi : 0 ≤ idl ∧ idl ≤ 255 := hi
    go_upto_region 5 with (fail)
    have hN : 1 ≤ 1 + idl % 50 ∧ 1 + idl % 50 ≤ 50 := by omega
    generalize 1 + idl % 50 = N at *
    clear d1 de p0 p1 p2 p3 p4 ltp q0 q1 q2 q3 q4 ltq
    replace hfh := Lib.hid hfh
    go_wp2_with fail
    refine (newFX w5 9 N (by omega) (by omega) (by omega) (by omega)).mono ?_
    rintro en w6 ⟨g, X, rfl, hT6, hX6, hb6⟩
    have hp6 := hp5.below hb6 hp5.lt
    have hq6 := hq5.below hb6 hq5.lt
    have hz5 := hB5.size
    have hltp := hp5.lt
    have hltq := hq5.lt
    have hB6 := hB5.trans (hb6.mono hz5)
    have hX : ∀ k, X k → w5.heap.size ≤ k ∧ k ≠ pb ∧ k ≠ qb := fun k hk => by have := hX6 k hk; omega
    have hz6 := hb6.size
    clear hp5 hq5 hX6 hb6 hB5
    have e1 : putN 9 [] f 1 (max 0 0) = (ze, false, [⟨f, 1, 0⟩]) := by simp [putN]
    have e2 : putN 9 [⟨f, 1, 0⟩] h 2 (max (max 0 0) 0) = (ze, false, [⟨f, 1, 0⟩, ⟨h, 2, 0⟩]) := by simp [putN, isF_no (x := ⟨f, 1, 0⟩) hfh.out]
    have u1 := putFX hT6 f hf 1 0 (by omega) (by omega)
    rw [e1] at u1
    replace e1 := Lib.hid e1
    replace e2 := Lib.hid e2
    obtain ⟨p0, p1, p2, p3, p4, ltp⟩ : w6.cell? ⟨pb, 0, none⟩ = some (.int .i64 f.pr) ∧ w6.cell? ⟨pb, 1, none⟩ = some (.int .u32 f.src) ∧ w6.cell? ⟨pb, 2, none⟩ = some (.int .u32 f.dst) ∧ w6.cell? ⟨pb, 3, none⟩ = some (.int .i64 f.sp) ∧ w6.cell? ⟨pb, 4, none⟩ = some (.int .i64 f.dp) ∧ pb < w6.heap.size := ⟨hp6.cellv 0 rfl, hp6.cellv 1 rfl, hp6.cellv 2 rfl, hp6.cellv 3 rfl, hp6.cellv 4 rfl, hp6.lt⟩
    go_upto_region 8 with (go_at_call 40; refine u1.mono ?_; rintro en w7 ⟨rfl, hT7, hC7⟩; unfold enA)
    clear u1 p0 p1 p2 p3 p4 ltp
    have hp7 := hC7.blk hp6 (fun q => (hX _ q).2.1 rfl)
    have hq7 := hC7.blk hq6 (fun q => (hX _ q).2.2 rfl)
    have hz7 := hC7.size
    have hB7 := below_chgF hB6 hC7 (fun k q => by have := (hX k q).1; omega) (Nat.le_refl _)
    have hX7 : ∀ k, (X k ∨ (w6.heap.size ≤ k ∧ k < w7.heap.size)) → w.heap.size ≤ k ∧ k ≠ pb ∧ k ≠ qb := fun k q => q.elim (fun q => by have := hX k q; omega) fun q => by have := hp6.lt; have := hq6.lt; omega
    have u2 := putFX hT7 h hh 2 0 (by omega) (by omega)
    rw [e2.out] at u2
    clear hT6 hB6 hC7 hp6 hq6
    obtain ⟨q0, q1, q2, q3, q4, ltq⟩ : w7.cell? ⟨qb, 0, none⟩ = some (.int .i64 h.pr) ∧ w7.cell? ⟨qb, 1, none⟩ = some (.int .u32 h.src) ∧ w7.cell? ⟨qb, 2, none⟩ = some (.int .u32 h.dst) ∧ w7.cell? ⟨qb, 3, none⟩ = some (.int .i64 h.sp) ∧ w7.cell? ⟨qb, 4, none⟩ = some (.int .i64 h.dp) ∧ qb < w7.heap.size := ⟨hq7.cellv 0 rfl, hq7.cellv 1 rfl, hq7.cellv 2 rfl, hq7.cellv 3 rfl, hq7.cellv 4 rfl, hq7.lt⟩
    go_upto_region 9 with (go_at_call 40; refine u2.mono ?_; rintro en w8 ⟨rfl, hT8, hC8⟩; unfold enA)
    clear u2 q0 q1 q2 q3 q4 ltq
    have hp8 := hC8.blk hp7 (fun q => (hX7 _ q).2.1 rfl)
    have hq8 := hC8.blk hq7 (fun q => (hX7 _ q).2.2 rfl)
    have hz8 := hC8.size
    have hB8 := below_chgF hB7 hC8 (fun k q => (hX7 k q).1) (Nat.le_refl _)
    obtain ⟨Y, hY⟩ : ∃ Y : Nat → Prop, Y = fun k => (X k ∨ (w6.heap.size ≤ k ∧ k < w7.heap.size)) ∨ (w7.heap.size ≤ k ∧ k < w8.heap.size) := ⟨_, rfl⟩
    rw [← hY] at hT8
    have hX8 : ∀ k, Y k → w.heap.size ≤ k ∧ k ≠ pb ∧ k ≠ qb := fun k q => by
      rw [hY] at q
      exact q.elim (hX7 k) fun q => by have := hp7.lt; have := hq7.lt; omega
    clear hY hT7 hB7 hC8 hp7 hq7 hX7
    replace hX8 := Lib.hid hX8
    have hmx : max (max 0 0) (0 : Int) = 0 := by omega
    rw [hmx] at hT8
    clear hmx hz8 hz7 hz6 hz5 hX
    go_wp2_with fail
    go_loopw [11, 47] (fun tv i wr => ∃ (k : Nat) (T : Int) (E : List EnV), k ≤ n ∧ i = .int .i64 (k : Int) ∧ tv = .int .i64 T ∧ 0 ≤ T ∧ T ≤ 50 * k ∧ IdleP f h N T E ∧ TabF wr Y g 9 N T (0 + 1 + 1) E ∧ Blk wr pb 57 #[.int .i64 f.pr, .int .u32 f.src, .int .u32 f.dst, .int .i64 f.sp, .int .i64 f.dp] ∧ Blk wr qb 57 #[.int .i64 h.pr, .int .u32 h.src, .int .u32 h.dst, .int .i64 h.sp, .int .i64 h.dp] ∧ Below w.heap.size w wr) (fun _ i _ => n - (intOf i).toNat)
    case atStart => exact ⟨0, 0, _, Nat.zero_le _, rfl, rfl, by omega, by omega, .inl ⟨by omega, .inl rfl⟩, hT8, hp8, hq8, hB8⟩
    case round =>
    clear hT8 hp8 hq8 hB8
    obtain ⟨k, T, E, hk, rfl, rfl, hT0, hTk, hE, hT, hp, hq, hB⟩ := hrel
    have hz := hB.size
    by_cases hlt : k < n
    rotate_left
    · obtain rfl : k = n := by omega
      go_wp2_with (go_at_call 38; refine (lives29_any _).mono ?_; rintro en w9 ⟨rfl, hb⟩)
      go_ret
      exact ⟨rfl, hB.trans (hb.mono hz)⟩
    obtain ⟨bb, off, rfl, hbb, hcell⟩ := hS.2 (by omega)
    have c0 : wr.cell? ⟨bb, off + k, none⟩ = some (.int .u8 (byAt bs k)) := by rw [hB.cell hbb]; exact hcell k hlt
    have b0 := byAt_lo bs k
    have b1 := byAt_hi bs k
    have hki : (k : Int) < n := by omega
    have ltb : bb < wr.heap.size := Nat.lt_of_lt_of_le hbb hz
    have hd0 : 0 ≤ byAt bs k % (N + 1) := Int.emod_nonneg _ (by omega)
    have hd1 : byAt bs k % (N + 1) ≤ N := by have := Int.emod_lt_of_pos (byAt bs k) (show 0 < N + 1 by omega); omega
    obtain ⟨E2, hg2, hE2, hpk⟩ := idle_step hE hfh.out hd0 hd1 hT0
    have hkb : (k : Int) ≤ 200 := by omega
    clear hcell hE
    go_upto_region 13 with (fail)
    obtain ⟨T2, hT2⟩ : ∃ T2, T2 = T + byAt bs k % (N + 1) := ⟨_, rfl⟩
    rw [← hT2] at hg2 hE2 hpk
    rw [← hT2]
    have hT2b : T ≤ T2 ∧ 0 ≤ T2 ∧ T2 ≤ 50 * ((k : Int) + 1) := by omega
    clear hd0 hd1 hT2 b0 b1 c0 ltb
    have hm1 : max T T2 = T2 := by omega
    have hm2 : max T2 T2 = T2 := by omega
    have x1 := expireFX hT T2 (by omega)
    rw [hm1] at x1
    replace hm1 := Lib.hid hm1
    replace hg2 := Lib.hid hg2
    replace hpk := Lib.hid hpk
    replace hm2 := Lib.hid hm2
    have hXp := hX8.out
    go_upto_region 14 with (go_at_call 41; refine x1.mono ?_; rintro en w9 ⟨v, rfl, hrow, hT9, hC9⟩)
    have hp9 := hC9.blk hp (fun q => (hXp _ q).2.1 rfl)
    have hq9 := hC9.blk hq (fun q => (hXp _ q).2.2 rfl)
    have hB9 := below_chgF hB hC9 (fun k q => (hXp k q).1) (Nat.le_refl _)
    have x2 := getFX hT9 f hf T2 (by omega)
    rw [hm2.out, hg2.out] at x2
    clear x1 hrow hT hp hq hB hC9
    obtain ⟨p0, p1, p2, p3, p4, ltp⟩ : w9.cell? ⟨pb, 0, none⟩ = some (.int .i64 f.pr) ∧ w9.cell? ⟨pb, 1, none⟩ = some (.int .u32 f.src) ∧ w9.cell? ⟨pb, 2, none⟩ = some (.int .u32 f.dst) ∧ w9.cell? ⟨pb, 3, none⟩ = some (.int .i64 f.sp) ∧ w9.cell? ⟨pb, 4, none⟩ = some (.int .i64 f.dp) ∧ pb < w9.heap.size := ⟨hp9.cellv 0 rfl, hp9.cellv 1 rfl, hp9.cellv 2 rfl, hp9.cellv 3 rfl, hp9.cellv 4 rfl, hp9.lt⟩
    go_upto_region 17 with (go_at_call 42; refine x2.mono ?_; rintro en w10 ⟨rfl, hT10, hC10⟩)
    have hp10 := hC10.blk hp9 (fun q => (hXp _ q).2.1 rfl)
    have hq10 := hC10.blk hq9 (fun q => (hXp _ q).2.2 rfl)
    have hB10 := below_chgF hB9 hC10 (fun k q => (hXp k q).1) (Nat.le_refl _)
    have x3 := peekFX (E := E2) hT10 h hh
    rw [hpk.out] at x3
    clear x2 p0 p1 p2 p3 p4 ltp hT9 hp9 hq9 hB9 hC10
    obtain ⟨yv, hyv⟩ : ∃ yv, yv = (peekN E2 h).1 := ⟨_, rfl⟩
    rw [← hyv] at x3
    obtain ⟨ok, hok⟩ : ∃ ok, ok = decide (T2 ≤ N) := ⟨_, rfl⟩
    rw [← hok] at x3
    replace hyv := Lib.hid hyv
    replace hok := Lib.hid hok
    have hok2 : decide (T2 ≤ N) = ok := hok.out.symm
    unfold enA at x3
    obtain ⟨q0, q1, q2, q3, q4, ltq⟩ : w10.cell? ⟨qb, 0, none⟩ = some (.int .i64 h.pr) ∧ w10.cell? ⟨qb, 1, none⟩ = some (.int .u32 h.src) ∧ w10.cell? ⟨qb, 2, none⟩ = some (.int .u32 h.dst) ∧ w10.cell? ⟨qb, 3, none⟩ = some (.int .i64 h.sp) ∧ w10.cell? ⟨qb, 4, none⟩ = some (.int .i64 h.dp) ∧ qb < w10.heap.size := ⟨hq10.cellv 0 rfl, hq10.cellv 1 rfl, hq10.cellv 2 rfl, hq10.cellv 3 rfl, hq10.cellv 4 rfl, hq10.lt⟩
    go_upto_region 18 with (go_at_call 43; refine x3.mono ?_; rintro en w11 ⟨rfl, hb11⟩)
    have hT11 := hT10.fwd hb11
    have hp11 := hp10.below hb11 hp10.lt
    have hq11 := hq10.below hb11 hq10.lt
    have hB11 := hB10.trans (hb11.mono hB10.size)
    have hb12 := (Below.refl w11.heap.size w11).alloc (Nat.le_refl _) (.cells #[.int .i64 (yv).fl.pr, .int .u32 (yv).fl.src, .int .u32 (yv).fl.dst, .int .i64 (yv).fl.sp, .int .i64 (yv).fl.dp, .int .i64 (yv).be, .int .i64 (yv).la] 62)
    have hT12 := hT11.fwd hb12
    have hp12 := hp11.below hb12 hp11.lt
    have hq12 := hq11.below hb12 hq11.lt
    have hB12 := hB11.trans (hb12.mono hB11.size)
    clear x3 q0 q1 q2 q3 q4 ltq hT10 hp10 hq10 hB10 hb11 hT11 hp11 hq11 hB11 hb12
    generalize w11.alloc (.cells #[.int .i64 (yv).fl.pr, .int .u32 (yv).fl.src, .int .u32 (yv).fl.dst, .int .i64 (yv).fl.sp, .int .i64 (yv).fl.dp, .int .i64 (yv).be, .int .i64 (yv).la] 62) = w12 at *
    by_cases hle : T2 ≤ N
    · have ho : ok = true := by rw [hok.out]; simpa using hle
      subst ho
      clear hok2
      go_wp2_with fail
      exact ⟨⟨k + 1, T2, E2, by omega, by go_num, rfl, by omega, by omega, hE2, hT12, hp12, hq12, hB12⟩, by simp [intOf]; omega⟩
    · have ho : ok = false := by rw [hok.out]; simpa using hle
      subst ho
      clear hok2
      go_wp2_with fail
      exact ⟨⟨k + 1, T2, E2, by omega, by go_num, rfl, by omega, by omega, hE2, hT12, hp12, hq12, hB12⟩, by simp [intOf]; omega⟩
  · skip
    go_simp
    have hb2 : Below w1.heap.size w1 (w1.drew.alloc (.cells #[.int .i64 0, .int .u32 0, .int .u32 0, .int .i64 0, .int .i64 0] 57)) := (Below.refl w1.heap.size w1).drew.alloc (Nat.le_refl _) (.cells #[.int .i64 0, .int .u32 0, .int .u32 0, .int .i64 0, .int .i64 0] 57)
    have hq : Blk (w1.drew.alloc (.cells #[.int .i64 0, .int .u32 0, .int .u32 0, .int .i64 0, .int .i64 0] 57)) w1.heap.size 57 #[.int .i64 0, .int .u32 0, .int .u32 0, .int .i64 0, .int .i64 0] := Blk.new w1.drew 57 #[.int .i64 0, .int .u32 0, .int .u32 0, .int .i64 0, .int .i64 0]
    have hd : (w1.alloc (.cells #[.int .i64 0, .int .u32 0, .int .u32 0, .int .i64 0, .int .i64 0] 57)).drew = w1.drew.alloc (.cells #[.int .i64 0, .int .u32 0, .int .u32 0, .int .i64 0, .int .i64 0] 57) := rfl
    try rw [hd]
    clear hd
    have hz2 : Hid ((w1.drew.alloc (.cells #[.int .i64 0, .int .u32 0, .int .u32 0, .int .i64 0, .int .i64 0] 57)).heap.size = w1.heap.size + 1) := by unfold Hid; simp
    generalize w1.drew.alloc (.cells #[.int .i64 0, .int .u32 0, .int .u32 0, .int .i64 0, .int .i64 0] 57) = w2 at *
    have hs6r := hb2
    refine hKQ.out _ _ hs6r ?_
    clear hKQ KQ
    try simp only [Act.put, List.setIfInBounds_toArray, List.set_cons_zero, List.set_cons_succ]
    refine held_callA 4 (by rfl) (by kernel_rfl) (by rfl) (fun KQ hKQ => ?_)
    go_simp
    have hb3 : Below w1.heap.size w1 (w2.alloc (.cells #[.int .i64 0, .int .u32 0, .int .u32 0, .int .i64 0, .int .i64 0] 57)) := hb2.alloc hb2.size (.cells #[.int .i64 0, .int .u32 0, .int .u32 0, .int .i64 0, .int .i64 0] 57)
    have hp : Blk (w2.alloc (.cells #[.int .i64 0, .int .u32 0, .int .u32 0, .int .i64 0, .int .i64 0] 57)) w2.heap.size 57 #[.int .i64 0, .int .u32 0, .int .u32 0, .int .i64 0, .int .i64 0] := Blk.new w2 57 #[.int .i64 0, .int .u32 0, .int .u32 0, .int .i64 0, .int .i64 0]
    replace hq := hq.alloc (.cells #[.int .i64 0, .int .u32 0, .int .u32 0, .int .i64 0, .int .i64 0] 57)
    have hz3 : Hid ((w2.alloc (.cells #[.int .i64 0, .int .u32 0, .int .u32 0, .int .i64 0, .int .i64 0] 57)).heap.size = w2.heap.size + 1) := by unfold Hid; simp
    generalize w2.alloc (.cells #[.int .i64 0, .int .u32 0, .int .u32 0, .int .i64 0, .int .i64 0] 57) = w3 at *
    have hs7r := hb3
    refine hKQ.out _ _ hs7r ?_
    clear hKQ KQ
    try simp only [Act.put, List.setIfInBounds_toArray, List.set_cons_zero, List.set_cons_succ]
    refine held_callA 6 (by rfl) (by kernel_rfl) (by rfl) (fun KQ hKQ => ?_)
    refine wp_store_blk hp 57 (.tmp 7) (.tmp 19) (by rfl) (by rfl) (by rfl) (by rfl) (by exact flow5) (by simp [Value.oneCell']) ?_
    intro w4 hp4 hg4
    have hb4 := below_own hb3 hg4 hb3.size (by have := hz2.out; omega)
    have hq4 := hq.grown hg4 (by have := hz2.out; simp; omega)
    have hs8r := hb4
    refine hKQ.out _ _ hs8r ?_
    clear hKQ KQ
    try simp only [Act.put]
    refine held_callA 7 (by rfl) (by kernel_rfl) (by rfl) (fun KQ hKQ => ?_)
    refine wp_store_blk hq4 57 (.tmp 8) (.tmp 21) (by rfl) (by rfl) (by rfl) (by rfl) (by exact flow5) (by simp [Value.oneCell']) ?_
    intro w5 hq5 hg5
    have hb5 := below_own hb4 hg5 hb4.size (by have := hz2.out; omega)
    have hp5 := hp4.grown hg5 (by have := hz2.out; simp; omega)
    have hs9r := hb5
    refine hKQ.out _ _ hs9r ?_
    clear hKQ KQ
    try simp only [Act.put]
    refine wpAnyH_done (by kernel_rfl) ?_ _
    try refine NoPanic.normal ?_
    have hB5 : Below w.heap.size w w5 := hB1.trans (hb5.mono hz1)
    obtain ⟨pb, hpb⟩ : ∃ pb, pb = w2.heap.size := ⟨_, rfl⟩
    obtain ⟨qb, hqb⟩ : ∃ qb, qb = w1.heap.size := ⟨_, rfl⟩
    rw [← hpb] at hp5
    rw [← hqb] at hq5
    rw [← hpb, ← hqb]
    have hlo : w.heap.size ≤ pb ∧ w.heap.size ≤ qb := by have := hz2.out; omega
    clear hp hq hp4 hg4 hq4 hg5 hb2 hb3 hb4 hb5 hB1 ha a0 a1 a2 a3 a4 a5 a6 a7 a8 a9 lta hz1 hz2 hz3 hpb hqb
    obtain ⟨p0, p1, p2, p3, p4, ltp⟩ : w5.cell? ⟨pb, 0, none⟩ = some (.int .i64 f.pr) ∧ w5.cell? ⟨pb, 1, none⟩ = some (.int .u32 f.src) ∧ w5.cell? ⟨pb, 2, none⟩ = some (.int .u32 f.dst) ∧ w5.cell? ⟨pb, 3, none⟩ = some (.int .i64 f.sp) ∧ w5.cell? ⟨pb, 4, none⟩ = some (.int .i64 f.dp) ∧ pb < w5.heap.size := ⟨hp5.cellv 0 rfl, hp5.cellv 1 rfl, hp5.cellv 2 rfl, hp5.cellv 3 rfl, hp5.cellv 4 rfl, hp5.lt⟩
    obtain ⟨q0, q1, q2, q3, q4, ltq⟩ : w5.cell? ⟨qb, 0, none⟩ = some (.int .i64 h.pr) ∧ w5.cell? ⟨qb, 1, none⟩ = some (.int .u32 h.src) ∧ w5.cell? ⟨qb, 2, none⟩ = some (.int .u32 h.dst) ∧ w5.cell? ⟨qb, 3, none⟩ = some (.int .i64 h.sp) ∧ w5.cell? ⟨qb, 4, none⟩ = some (.int .i64 h.dp) ∧ qb < w5.heap.size := ⟨hq5.cellv 0 rfl, hq5.cellv 1 rfl, hq5.cellv 2 rfl, hq5.cellv 3 rfl, hq5.cellv 4 rfl, hq5.lt⟩
    by_cases hbig : 200 < n
    · have d1 : decide ((200 : Int) < n) = true := by simp; omega
      go_wp2_with (go_at_call 38; refine (lives29_any _).mono ?_; rintro en w6 ⟨rfl, hb⟩)
      go_ret
      exact ⟨rfl, hB5.trans (hb.mono hB5.size)⟩
    have d1 : decide ((200 : Int) < n) = false := by simp; omega
    by_cases hfh : f = h
    · have de : decide (Flo.mk f.pr f.src f.dst f.sp f.dp = Flo.mk h.pr h.src h.dst h.sp h.dp) = true := decide_eq_true hfh
      have de2 : f.pr = h.pr ∧ f.src = h.src ∧ f.dst = h.dst ∧ f.sp = h.sp ∧ f.dp = h.dp := by rw [hfh]; exact ⟨rfl, rfl, rfl, rfl, rfl⟩
      obtain ⟨x1, x2, x3, x4, x5⟩ := de2
      rw [← x1] at q0
      rw [← x2] at q1
      rw [← x3] at q2
      rw [← x4] at q3
      rw [← x5] at q4
      clear de x1 x2 x3 x4 x5 hfh
      go_wp2_with (go_at_call 38; refine (lives29_any _).mono ?_; rintro en w6 ⟨rfl, hb⟩)
      go_ret
      exact ⟨rfl, hB5.trans (hb.mono hB5.size)⟩
    have de : decide (Flo.mk f.pr f.src f.dst f.sp f.dp = Flo.mk h.pr h.src h.dst h.sp h.dp) = false := decide_eq_false hfh
    have hi := _wi
    simp only [Lit.wf, Bool.and_eq_true, decide_eq_true_eq] at hi
    replace hi : 0 ≤ idl ∧ idl ≤ 255 := hi
    go_upto_region 5 with (fail)
    have hN : 1 ≤ 1 + idl % 50 ∧ 1 + idl % 50 ≤ 50 := by omega
    generalize 1 + idl % 50 = N at *
    clear d1 de p0 p1 p2 p3 p4 ltp q0 q1 q2 q3 q4 ltq
    replace hfh := Lib.hid hfh
    go_wp2_with fail
    refine (newFX w5 9 N (by omega) (by omega) (by omega) (by omega)).mono ?_
    rintro en w6 ⟨g, X, rfl, hT6, hX6, hb6⟩
    have hp6 := hp5.below hb6 hp5.lt
    have hq6 := hq5.below hb6 hq5.lt
    have hz5 := hB5.size
    have hltp := hp5.lt
    have hltq := hq5.lt
    have hB6 := hB5.trans (hb6.mono hz5)
    have hX : ∀ k, X k → w5.heap.size ≤ k ∧ k ≠ pb ∧ k ≠ qb := fun k hk => by have := hX6 k hk; omega
    have hz6 := hb6.size
    clear hp5 hq5 hX6 hb6 hB5
    have e1 : putN 9 [] f 1 (max 0 0) = (ze, false, [⟨f, 1, 0⟩]) := by simp [putN]
    have e2 : putN 9 [⟨f, 1, 0⟩] h 2 (max (max 0 0) 0) = (ze, false, [⟨f, 1, 0⟩, ⟨h, 2, 0⟩]) := by simp [putN, isF_no (x := ⟨f, 1, 0⟩) hfh.out]
    have u1 := putFX hT6 f hf 1 0 (by omega) (by omega)
    rw [e1] at u1
    replace e1 := Lib.hid e1
    replace e2 := Lib.hid e2
    obtain ⟨p0, p1, p2, p3, p4, ltp⟩ : w6.cell? ⟨pb, 0, none⟩ = some (.int .i64 f.pr) ∧ w6.cell? ⟨pb, 1, none⟩ = some (.int .u32 f.src) ∧ w6.cell? ⟨pb, 2, none⟩ = some (.int .u32 f.dst) ∧ w6.cell? ⟨pb, 3, none⟩ = some (.int .i64 f.sp) ∧ w6.cell? ⟨pb, 4, none⟩ = some (.int .i64 f.dp) ∧ pb < w6.heap.size := ⟨hp6.cellv 0 rfl, hp6.cellv 1 rfl, hp6.cellv 2 rfl, hp6.cellv 3 rfl, hp6.cellv 4 rfl, hp6.lt⟩
    go_upto_region 8 with (go_at_call 40; refine u1.mono ?_; rintro en w7 ⟨rfl, hT7, hC7⟩; unfold enA)
    clear u1 p0 p1 p2 p3 p4 ltp
    have hp7 := hC7.blk hp6 (fun q => (hX _ q).2.1 rfl)
    have hq7 := hC7.blk hq6 (fun q => (hX _ q).2.2 rfl)
    have hz7 := hC7.size
    have hB7 := below_chgF hB6 hC7 (fun k q => by have := (hX k q).1; omega) (Nat.le_refl _)
    have hX7 : ∀ k, (X k ∨ (w6.heap.size ≤ k ∧ k < w7.heap.size)) → w.heap.size ≤ k ∧ k ≠ pb ∧ k ≠ qb := fun k q => q.elim (fun q => by have := hX k q; omega) fun q => by have := hp6.lt; have := hq6.lt; omega
    have u2 := putFX hT7 h hh 2 0 (by omega) (by omega)
    rw [e2.out] at u2
    clear hT6 hB6 hC7 hp6 hq6
    obtain ⟨q0, q1, q2, q3, q4, ltq⟩ : w7.cell? ⟨qb, 0, none⟩ = some (.int .i64 h.pr) ∧ w7.cell? ⟨qb, 1, none⟩ = some (.int .u32 h.src) ∧ w7.cell? ⟨qb, 2, none⟩ = some (.int .u32 h.dst) ∧ w7.cell? ⟨qb, 3, none⟩ = some (.int .i64 h.sp) ∧ w7.cell? ⟨qb, 4, none⟩ = some (.int .i64 h.dp) ∧ qb < w7.heap.size := ⟨hq7.cellv 0 rfl, hq7.cellv 1 rfl, hq7.cellv 2 rfl, hq7.cellv 3 rfl, hq7.cellv 4 rfl, hq7.lt⟩
    go_upto_region 9 with (go_at_call 40; refine u2.mono ?_; rintro en w8 ⟨rfl, hT8, hC8⟩; unfold enA)
    clear u2 q0 q1 q2 q3 q4 ltq
    have hp8 := hC8.blk hp7 (fun q => (hX7 _ q).2.1 rfl)
    have hq8 := hC8.blk hq7 (fun q => (hX7 _ q).2.2 rfl)
    have hz8 := hC8.size
    have hB8 := below_chgF hB7 hC8 (fun k q => (hX7 k q).1) (Nat.le_refl _)
    obtain ⟨Y, hY⟩ : ∃ Y : Nat → Prop, Y = fun k => (X k ∨ (w6.heap.size ≤ k ∧ k < w7.heap.size)) ∨ (w7.heap.size ≤ k ∧ k < w8.heap.size) := ⟨_, rfl⟩
    rw [← hY] at hT8
    have hX8 : ∀ k, Y k → w.heap.size ≤ k ∧ k ≠ pb ∧ k ≠ qb := fun k q => by
      rw [hY] at q
      exact q.elim (hX7 k) fun q => by have := hp7.lt; have := hq7.lt; omega
    clear hY hT7 hB7 hC8 hp7 hq7 hX7
    replace hX8 := Lib.hid hX8
    have hmx : max (max 0 0) (0 : Int) = 0 := by omega
    rw [hmx] at hT8
    clear hmx hz8 hz7 hz6 hz5 hX
    go_wp2_with fail
    go_loopw [11, 47] (fun tv i wr => ∃ (k : Nat) (T : Int) (E : List EnV), k ≤ n ∧ i = .int .i64 (k : Int) ∧ tv = .int .i64 T ∧ 0 ≤ T ∧ T ≤ 50 * k ∧ IdleP f h N T E ∧ TabF wr Y g 9 N T (0 + 1 + 1) E ∧ Blk wr pb 57 #[.int .i64 f.pr, .int .u32 f.src, .int .u32 f.dst, .int .i64 f.sp, .int .i64 f.dp] ∧ Blk wr qb 57 #[.int .i64 h.pr, .int .u32 h.src, .int .u32 h.dst, .int .i64 h.sp, .int .i64 h.dp] ∧ Below w.heap.size w wr) (fun _ i _ => n - (intOf i).toNat)
    case atStart => exact ⟨0, 0, _, Nat.zero_le _, rfl, rfl, by omega, by omega, .inl ⟨by omega, .inl rfl⟩, hT8, hp8, hq8, hB8⟩
    case round =>
    clear hT8 hp8 hq8 hB8
    obtain ⟨k, T, E, hk, rfl, rfl, hT0, hTk, hE, hT, hp, hq, hB⟩ := hrel
    have hz := hB.size
    by_cases hlt : k < n
    rotate_left
    · obtain rfl : k = n := by omega
      go_wp2_with (go_at_call 38; refine (lives29_any _).mono ?_; rintro en w9 ⟨rfl, hb⟩)
      go_ret
      exact ⟨rfl, hB.trans (hb.mono hz)⟩
    obtain ⟨bb, off, rfl, hbb, hcell⟩ := hS.2 (by omega)
    have c0 : wr.cell? ⟨bb, off + k, none⟩ = some (.int .u8 (byAt bs k)) := by rw [hB.cell hbb]; exact hcell k hlt
    have b0 := byAt_lo bs k
    have b1 := byAt_hi bs k
    have hki : (k : Int) < n := by omega
    have ltb : bb < wr.heap.size := Nat.lt_of_lt_of_le hbb hz
    have hd0 : 0 ≤ byAt bs k % (N + 1) := Int.emod_nonneg _ (by omega)
    have hd1 : byAt bs k % (N + 1) ≤ N := by have := Int.emod_lt_of_pos (byAt bs k) (show 0 < N + 1 by omega); omega
    obtain ⟨E2, hg2, hE2, hpk⟩ := idle_step hE hfh.out hd0 hd1 hT0
    have hkb : (k : Int) ≤ 200 := by omega
    clear hcell hE
    go_upto_region 13 with (fail)
    obtain ⟨T2, hT2⟩ : ∃ T2, T2 = T + byAt bs k % (N + 1) := ⟨_, rfl⟩
    rw [← hT2] at hg2 hE2 hpk
    rw [← hT2]
    have hT2b : T ≤ T2 ∧ 0 ≤ T2 ∧ T2 ≤ 50 * ((k : Int) + 1) := by omega
    clear hd0 hd1 hT2 b0 b1 c0 ltb
    have hm1 : max T T2 = T2 := by omega
    have hm2 : max T2 T2 = T2 := by omega
    have x1 := expireFX hT T2 (by omega)
    rw [hm1] at x1
    replace hm1 := Lib.hid hm1
    replace hg2 := Lib.hid hg2
    replace hpk := Lib.hid hpk
    replace hm2 := Lib.hid hm2
    have hXp := hX8.out
    go_upto_region 14 with (go_at_call 41; refine x1.mono ?_; rintro en w9 ⟨v, rfl, hrow, hT9, hC9⟩)
    have hp9 := hC9.blk hp (fun q => (hXp _ q).2.1 rfl)
    have hq9 := hC9.blk hq (fun q => (hXp _ q).2.2 rfl)
    have hB9 := below_chgF hB hC9 (fun k q => (hXp k q).1) (Nat.le_refl _)
    have x2 := getFX hT9 f hf T2 (by omega)
    rw [hm2.out, hg2.out] at x2
    clear x1 hrow hT hp hq hB hC9
    obtain ⟨p0, p1, p2, p3, p4, ltp⟩ : w9.cell? ⟨pb, 0, none⟩ = some (.int .i64 f.pr) ∧ w9.cell? ⟨pb, 1, none⟩ = some (.int .u32 f.src) ∧ w9.cell? ⟨pb, 2, none⟩ = some (.int .u32 f.dst) ∧ w9.cell? ⟨pb, 3, none⟩ = some (.int .i64 f.sp) ∧ w9.cell? ⟨pb, 4, none⟩ = some (.int .i64 f.dp) ∧ pb < w9.heap.size := ⟨hp9.cellv 0 rfl, hp9.cellv 1 rfl, hp9.cellv 2 rfl, hp9.cellv 3 rfl, hp9.cellv 4 rfl, hp9.lt⟩
    go_upto_region 17 with (go_at_call 42; refine x2.mono ?_; rintro en w10 ⟨rfl, hT10, hC10⟩)
    have hp10 := hC10.blk hp9 (fun q => (hXp _ q).2.1 rfl)
    have hq10 := hC10.blk hq9 (fun q => (hXp _ q).2.2 rfl)
    have hB10 := below_chgF hB9 hC10 (fun k q => (hXp k q).1) (Nat.le_refl _)
    have x3 := peekFX (E := E2) hT10 h hh
    rw [hpk.out] at x3
    clear x2 p0 p1 p2 p3 p4 ltp hT9 hp9 hq9 hB9 hC10
    obtain ⟨yv, hyv⟩ : ∃ yv, yv = (peekN E2 h).1 := ⟨_, rfl⟩
    rw [← hyv] at x3
    obtain ⟨ok, hok⟩ : ∃ ok, ok = decide (T2 ≤ N) := ⟨_, rfl⟩
    rw [← hok] at x3
    replace hyv := Lib.hid hyv
    replace hok := Lib.hid hok
    have hok2 : decide (T2 ≤ N) = ok := hok.out.symm
    unfold enA at x3
    obtain ⟨q0, q1, q2, q3, q4, ltq⟩ : w10.cell? ⟨qb, 0, none⟩ = some (.int .i64 h.pr) ∧ w10.cell? ⟨qb, 1, none⟩ = some (.int .u32 h.src) ∧ w10.cell? ⟨qb, 2, none⟩ = some (.int .u32 h.dst) ∧ w10.cell? ⟨qb, 3, none⟩ = some (.int .i64 h.sp) ∧ w10.cell? ⟨qb, 4, none⟩ = some (.int .i64 h.dp) ∧ qb < w10.heap.size := ⟨hq10.cellv 0 rfl, hq10.cellv 1 rfl, hq10.cellv 2 rfl, hq10.cellv 3 rfl, hq10.cellv 4 rfl, hq10.lt⟩
    go_upto_region 18 with (go_at_call 43; refine x3.mono ?_; rintro en w11 ⟨rfl, hb11⟩)
    have hT11 := hT10.fwd hb11
    have hp11 := hp10.below hb11 hp10.lt
    have hq11 := hq10.below hb11 hq10.lt
    have hB11 := hB10.trans (hb11.mono hB10.size)
    have hb12 := (Below.refl w11.heap.size w11).alloc (Nat.le_refl _) (.cells #[.int .i64 (yv).fl.pr, .int .u32 (yv).fl.src, .int .u32 (yv).fl.dst, .int .i64 (yv).fl.sp, .int .i64 (yv).fl.dp, .int .i64 (yv).be, .int .i64 (yv).la] 62)
    have hT12 := hT11.fwd hb12
    have hp12 := hp11.below hb12 hp11.lt
    have hq12 := hq11.below hb12 hq11.lt
    have hB12 := hB11.trans (hb12.mono hB11.size)
    clear x3 q0 q1 q2 q3 q4 ltq hT10 hp10 hq10 hB10 hb11 hT11 hp11 hq11 hB11 hb12
    generalize w11.alloc (.cells #[.int .i64 (yv).fl.pr, .int .u32 (yv).fl.src, .int .u32 (yv).fl.dst, .int .i64 (yv).fl.sp, .int .i64 (yv).fl.dp, .int .i64 (yv).be, .int .i64 (yv).la] 62) = w12 at *
    by_cases hle : T2 ≤ N
    · have ho : ok = true := by rw [hok.out]; simpa using hle
      subst ho
      clear hok2
      go_wp2_with fail
      exact ⟨⟨k + 1, T2, E2, by omega, by go_num, rfl, by omega, by omega, hE2, hT12, hp12, hq12, hB12⟩, by simp [intOf]; omega⟩
    · have ho : ok = false := by rw [hok.out]; simpa using hle
      subst ho
      clear hok2
      go_wp2_with fail
      exact ⟨⟨k + 1, T2, E2, by omega, by go_num, rfl, by omega, by omega, hE2, hT12, hp12, hq12, hB12⟩, by simp [intOf]; omega⟩
theorem idle29_row (idl : Int) (A : Option Addr) (n c : Nat) (bs : List UInt8) (x0 x1 x2 x3 x4 x5 x6 x7 x8 x9 : Int) (w : World) (_wi : (Lit.int .u8 idl).wf = true) (hc : n ≤ c) (hm : c ≤ maxLen) (hS : Byt w w.heap.size A n bs) (w0 : (Lit.int .i64 x0).wf = true) (w1 : (Lit.int .u32 x1).wf = true) (w2 : (Lit.int .u32 x2).wf = true) (w3 : (Lit.int .i64 x3).wf = true) (w4 : (Lit.int .i64 x4).wf = true) (w5 : (Lit.int .i64 x5).wf = true) (w6 : (Lit.int .u32 x6).wf = true) (w7 : (Lit.int .u32 x7).wf = true) (w8 : (Lit.int .i64 x8).wf = true) (w9 : (Lit.int .i64 x9).wf = true) :
    Calls Try.prog 7 #[.int .u8 idl, .slice A n c, .agg #[.int .i64 x0, .int .u32 x1, .int .u32 x2, .int .i64 x3, .int .i64 x4, .int .i64 x5, .int .u32 x6, .int .u32 x7, .int .i64 x8, .int .i64 x9]] w fun e w' => e = .returned (.bool true) ∧ Below w.heap.size w w' :=
  idle29_walk idl A n c bs ⟨x0, x1, x2, x3, x4⟩ ⟨x5, x6, x7, x8, x9⟩ w _wi hc hm hS ⟨w0, w1, w2, w3, w4⟩ ⟨w5, w6, w7, w8, w9⟩
end Go.Proofs.Ytejgekoinbdhjaa
