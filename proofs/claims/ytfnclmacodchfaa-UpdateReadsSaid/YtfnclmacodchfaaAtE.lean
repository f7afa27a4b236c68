/- attr: the document's Split. -/
import Derived.Test.YtfnclmacodchfaaAtJ
import Derived.Test.YtfnclmacodchfaaWirr
namespace Go.Proofs.Ytfnclmacodchfaa
set_option linter.unusedVariables false
open Go.RowKit

/-- how many bytes the document's source has left, by its cells. -/
def refLen (w : World) (g : Nat) : Nat := match w.cell? ⟨g, 0, none⟩, w.cell? ⟨g, 1, none⟩ with
  | some (.slice _ n _), some (.int _ k) => n - k.toNat
  | _, _ => 0
theorem Ref.refLen {w : World} {lo g : Nat} {s : St} (h : Ref w lo g s) : refLen w g = s.l.length := by
  obtain ⟨A, n, c, N, L, h1, h2, h3, h4, h5, h6, h7, h8, h9⟩ := h
  unfold Go.Proofs.Ytfnclmacodchfaa.refLen
  rw [h3.cellv 0 (v := .slice A n c) rfl, h3.cellv 1 (v := .int .i64 (N : Int)) rfl, h8, List.length_drop, h4.1]
  simp
theorem Ref.err {w : World} {lo g : Nat} {s : St} (h : Ref w lo g s) : w.cell? ⟨g, 2, none⟩ = some (.int .i64 s.e) := by
  obtain ⟨A, n, c, N, L, h1, h2, h3, h4, h5, h6, h7, h8, h9⟩ := h
  exact h3.cellv 2 rfl
theorem refFault_any (w : World) (sub : Int) (A : Option Addr) (n c : Nat) : Calls Try.prog 85 #[.int .i64 sub, .slice A n c] w fun e w' => e = .returned (.agg #[.int .i64 3, .int .i64 sub, .slice A n c]) ∧ Below w.heap.size w w' := by
  have hi : (Try.prog.info? 44).map (·.size) = some 3 := by kernel_rfl
  have hk := Blk.new w 44 #[.int .i64 3, .int .i64 sub, .slice A n c]
  go_enter Try.func85, Try.ntmps85
  go_wp2_with fail
  exact bodyPost_ret (results_c rfl _ rfl (load_blk hk Try.underlying44 rfl hi)) rfl ⟨rfl, (Below.refl w.heap.size w).alloc (Nat.le_refl _) _⟩
set_option maxRecDepth 100000 in
set_option maxHeartbeats 8000000 in
theorem refSplit_any (w : World) (A : Option Addr) (n c : Nat) (l : List UInt8) (h : Byt w w.heap.size A n l) (hn : n ≤ 10000000) :
    Calls Try.prog 84 #[.slice A n c] w fun e w' => Below w.heap.size w w' ∧ SplP 124 w w' e (splitL ⟨l, 0, 0⟩) := by
  have hi : (Try.prog.info? 44).map (·.size) = some 3 := by kernel_rfl
  have hr := Blk.new w 44 zF
  have hB := (Below.refl w.heap.size w).alloc (Nat.le_refl _) (.cells zF 44)
  have hI := (h.below hB).more hB.size
  unfold zF at hr hB hI
  go_enter Try.func84, Try.ntmps84
  go_wp2_with fail
  generalize w.alloc (.cells #[.int .i64 0, .int .i64 0, .slice none 0 0] 44) = w0 at *
  refine (refRead_any w0 A n c l _ hI (Nat.le_refl _) (by omega)).mono ?_
  rintro e w1 ⟨g, rfl, hg, hsrc, hb1⟩
  have hlt0 := hr.lt
  replace hr := hr.below hb1 hr.lt
  replace hB := hB.trans (hb1.mono hB.size)
  have hg1 : w.heap.size < g := by omega
  have hrow := Rows.nil (R := rawK) w1 (g + 1) (g + 1) 124
  generalize hs0 : (⟨l, 0, 0⟩ : St) = s0 at hsrc
  have hs0e : s0.e = 0 := by rw [← hs0]
  have hs0l : s0.l.length ≤ 10000000 := by rw [← hs0, h.1]; exact hn
  replace hs0 := Lib.hid hs0
  generalize w0.heap.size = lo at *
  clear hb1 hI hg h hlt0
  go_wp2_with fail
  go_loopw [5, 6, 7] (fun v _ _ wr => ∃ s rs, Ref wr lo g s ∧ s.e = 0 ∧ s.l.length + rs.length ≤ 10000000 ∧ Rows rawK wr (g + 1) (g + 1) 124 v rs ∧ Blk wr w.heap.size 44 #[.int .i64 0, .int .i64 0, .slice none 0 0] ∧ Below w.heap.size w wr ∧ splitL s0 = (splitL s).map (rs.map dat ++ ·)) (fun _ _ _ wr => refLen wr g)
  case atStart => exact ⟨s0, [], hsrc, hs0e, by simpa using hs0l, hrow, hr, hB, by cases splitL s0 <;> simp⟩
  case round =>
  clear hsrc hrow hr hB
  obtain ⟨s, rs, hsrc, hse, hlim, hrow, hr, hB, hsp⟩ := hrel
  have hln := hsrc.refLen
  have hlt := hsrc.lt
  replace hsp := Lib.hid hsp
  replace hln := Lib.hid hln
  go_wp2_with fail
  refine (refLeft_any wr lo g s hsrc).mono ?_
  rintro e w2 ⟨kk, rfl, hdr⟩
  have hb2 : Below wr.heap.size wr w2 := by rw [hdr]; exact below_drewN (Below.refl _ _) kk
  replace hsrc := hsrc.below hb2 hlt
  replace hrow := hrow.below hb2
  replace hr := hr.below hb2 hr.lt
  replace hB := hB.trans (hb2.mono hB.size)
  replace hlt := hsrc.lt
  clear hb2 hdr
  by_cases hl : 0 < leftV s
  rotate_left
  · have hl2 : leftV s ≤ 0 := by omega
    go_wp2_with (refine wpList_store_blk rfl hr 44 (.tmp 3) (.tmp 42) rfl rfl rfl rfl hi (by simp [Value.oneCell']) ?_; intro w3 hr3 hg3)
    try rw [Exit.noGoto_ret]
    refine bodyPost_ret (results_tc rfl _ rfl (load_blk hr3 Try.underlying44 rfl hi)) rfl ?_
    refine ⟨below_own hB hg3 hB.size (Nat.le_refl _), ?_⟩
    rw [hs0.out, hsp.out, splitL_end (by omega)]
    simp only [Option.map_some, List.append_nil]
    exact ⟨_, rs, rfl, (hrow.kept hg3 (fun k e => by cases e; omega) (Nat.le_refl _)).less (by omega) (by omega), rfl⟩
  have hgz : g < g + 1 := Nat.lt_succ_self _
  go_wp2_with fail
  refine (refU8_any w2 lo g s hsrc).mono ?_
  rintro e w3 ⟨rfl, hsrc1, hg3⟩
  replace hrow := hrow.kept hg3 (fun k e => by cases e; exact hgz) (Nat.le_refl _)
  replace hr := hr.grown hg3 (by simp; omega)
  replace hB := below_own hB hg3 hB.size (by omega)
  have eF : numV s 1 = rdF s := rfl
  have eS1 : (tk s 1).1 = rdS1 s := rfl
  rw [eF]
  rw [eS1] at hsrc1
  have hx := ext_bit (rdF s)
  have hbx := (Below.refl w3.heap.size w3).alloc (Nat.le_refl _) (.cells #[.int .i64 (rdF s), .int .i64 0, .slice none 0 0] 124)
  have hq := Blk.new w3 124 #[.int .i64 (rdF s), .int .i64 0, .slice none 0 0]
  have hlt3 := hsrc1.lt
  have hsrc1b := hsrc1.below hbx hsrc1.lt
  have hG := grown_alloc (grown_refl w3 (some g)) (.cells #[.int .i64 (rdF s), .int .i64 0, .slice none 0 0] 124)
  have hz3 := hB.size
  have hown3 := hrow.own
  clear hbx eF hg3 hsrc hsrc1 eS1
  go_wp2_with fail
  generalize w3.alloc (.cells #[.int .i64 (rdF s), .int .i64 0, .slice none 0 0] 124) = x3 at *
  refine (refU8_any x3 lo g (rdS1 s) hsrc1b).mono ?_
  rintro e w4 ⟨rfl, hsrc2, hg4⟩
  have eT : numV (rdS1 s) 1 = rdT s := rfl
  have eS2 : (tk (rdS1 s) 1).1 = rdS2 s := rfl
  rw [eT]
  rw [eS2] at hsrc2
  replace hq := hq.grown hg4 (by simp; omega)
  replace hG := grown_trans hG hg4
  have q1 : w4.cell? ⟨w3.heap.size, 1, none⟩ = some (.int .i64 0) := hq.cellv 1 rfl
  have fz1 := hq.frozen 1
  have lt4 := hq.lt
  have q0 : w4.cell? ⟨w3.heap.size, 0, none⟩ = some (.int .i64 (rdF s)) := hq.cellv 0 rfl
  clear hg4 eT hsrc1b eS2
  cases hxb : extB (rdF s)
  · rw [hxb] at hx
    have hk : rdK s = 1 := by unfold rdK; rw [hxb]; rfl
    have eZ : rdZ s = numV (rdS2 s) 1 := by unfold rdZ; rw [hk]
    have e3 : rdS3 s = (tk (rdS2 s) 1).1 := by unfold rdS3; rw [hk]; rfl
    go_wp2_with fail
    obtain ⟨hq5, hg5⟩ := blk_store hq 1 (.int .i64 (rdT s))
    replace hq5 : Blk (w4.setCell ⟨w3.heap.size, 1, none⟩ (.int .i64 (rdT s))) w3.heap.size 124 #[.int .i64 (rdF s), .int .i64 (rdT s), .slice none 0 0] := hq5
    have hsrc2b := hsrc2.grown_up hg5 hlt3
    replace hG := grown_setCell hG (p := ⟨w3.heap.size, 1, none⟩) (.inr (Nat.le_refl _)) (.int .i64 (rdT s))
    generalize w4.setCell ⟨w3.heap.size, 1, none⟩ (.int .i64 (rdT s)) = w5 at *
    clear hq hg5 q1 q0 fz1 hsrc2
    refine (refU8_any w5 lo g (rdS2 s) hsrc2b).mono ?_
    rintro e w6 ⟨rfl, hsrc3, hg6⟩
    rw [← eZ]
    rw [← e3] at hsrc3
    replace hq5 := hq5.grown hg6 (by simp; omega)
    replace hG := grown_trans hG hg6
    clear hg6 eZ e3 hk hsrc2b
    go_wp2_with fail
    refine (refBytes_any w6 lo g (rdS3 s) hsrc3 (rdZ s)).mono ?_
    rintro e w7 ⟨v7, rfl, own6, hsrc4, hg7⟩
    have eV : (tk (rdS3 s) (rdZ s)).2 = rdV s := rfl
    have eS : (tk (rdS3 s) (rdZ s)).1 = rdS4 s := rfl
    rw [eV] at own6
    rw [eS] at hsrc4
    obtain ⟨A6, c6, rfl, hc6, hcm6, by6, hA6⟩ := own6.any2
    have hz6 := hG.size
    have lt6 := hq5.lt
    replace hq5 := hq5.grown hg7 (by simp; omega)
    replace hG := grown_trans hG hg7
    clear hg7 eV eS own6
    have q2 : w7.cell? ⟨w3.heap.size, 2, none⟩ = some (.slice none 0 0) := hq5.cellv 2 rfl
    have fz2 := hq5.frozen 2
    have lt7 := hq5.lt
    have hby := Byt.bytS (lo := w6.heap.size) by6 (fun _ => hA6)
    obtain ⟨hq8, hg8⟩ := blk_store hq5 2 (.slice A6 (rdV s).length c6)
    have hG8 := grown_setCell hG (p := ⟨w3.heap.size, 2, none⟩) (.inr (Nat.le_refl _)) (.slice A6 (rdV s).length c6)
    replace hby := hby.keep (w' := w7.setCell ⟨w3.heap.size, 2, none⟩ (.slice A6 (rdV s).length c6)) fun p hp => World.cell?_setCell_other _ _ _ _ (by intro e; have := hp.1; rw [← e] at this; simp at this; omega)
    have hsrc8 := hsrc4.grown_up hg8 hlt3
    have hz8 := hg8.size
    replace hq8 : Blk (w7.setCell ⟨w3.heap.size, 2, none⟩ (.slice A6 (rdV s).length c6)) w3.heap.size 124 #[.int .i64 (rdF s), .int .i64 (rdT s), .slice A6 (rdV s).length c6] := hq8
    generalize hw8 : w7.setCell ⟨w3.heap.size, 2, none⟩ (.slice A6 (rdV s).length c6) = w8 at *
    have hEc := hsrc8.err
    have ltE := hsrc8.lt
    clear hq5 hG hsrc4 hg8 by6
    replace hrow := hrow.kept hG8 (fun k e => by cases e; exact hgz) (Nat.le_refl _)
    replace hr := hr.grown hG8 (by simp; omega)
    replace hB := below_own hB hG8 hB.size (by omega)
    by_cases hE : (rdS4 s).e = 0
    rotate_left
    · have hne : ((rdS4 s).e != 0) = true := by simpa using hE
      have hno := splitL_no hl hE
      replace hE := Lib.hid hE
      replace hno := Lib.hid hno
      go_wp2_with fail
      refine (refFault_any w8 1 none 0 0).mono ?_
      rintro e w9 ⟨rfl, hb9⟩
      replace hr := hr.below hb9 hr.lt
      replace hB := hB.trans (hb9.mono hB.size)
      go_wp2_with (refine wpList_store_blk rfl hr 44 (.tmp 3) (.tmp 36) rfl rfl rfl rfl hi (by simp [Value.oneCell']) ?_; intro w10 hr10 hg10)
      try rw [Exit.noGoto_ret]
      refine bodyPost_ret (results_tc rfl _ rfl (load_blk hr10 Try.underlying44 rfl hi)) rfl ?_
      refine ⟨below_own hB hg10 hB.size (Nat.le_refl _), ?_⟩
      rw [hs0.out, hsp.out, hno.out]
      rfl
    have hgo := splitL_go hl hE
    obtain ⟨hls, -⟩ := rd_less hE
    rw [hE] at hEc
    have hE' := Lib.hid hE
    replace hgo := Lib.hid hgo
    clear hE
    have ltq := hq8.lt
    have q0 : w8.cell? ⟨w3.heap.size, 0, none⟩ = some (.int .i64 (rdF s)) := hq8.cellv 0 rfl
    have q1 : w8.cell? ⟨w3.heap.size, 1, none⟩ = some (.int .i64 (rdT s)) := hq8.cellv 1 rfl
    have q2 : w8.cell? ⟨w3.heap.size, 2, none⟩ = some (.slice A6 (rdV s).length c6) := hq8.cellv 2 rfl
    obtain ⟨r, hrd⟩ : ∃ r : RawV, r = ⟨rdF s, rdT s, A6, (rdV s).length, c6, rdV s⟩ := ⟨_, rfl⟩
    have hok : rawK.ok w8 (fun b => w6.heap.size ≤ b ∧ b < w8.heap.size) r := by rw [hrd]; exact ⟨hc6, hcm6, hby.more fun b hb => ⟨hb.1, by omega⟩⟩
    have hcr : rawK.cel r = [.int .i64 (rdF s), .int .i64 (rdT s), .slice A6 (rdV s).length c6] := by rw [hrd]; rfl
    have hone := seen_one w8 124 r #[.int .i64 (rdF s), .int .i64 (rdT s), .slice A6 (rdV s).length c6] (by rw [hcr]) hok (S' := fun b => b < w8.heap.size + 1) (fun b hb => hb.2) (Nat.lt_succ_self _) (fun b hb => by omega)
    have hby9 := (Below.refl w8.heap.size w8).alloc (Nat.le_refl _) (.cells #[.int .i64 (rdF s), .int .i64 (rdT s), .slice A6 (rdV s).length c6] 124)
    have hrow9 := hrow.alloc (.cells #[.int .i64 (rdF s), .int .i64 (rdT s), .slice A6 (rdV s).length c6] 124)
    have hr9 := hr.alloc (.cells #[.int .i64 (rdF s), .int .i64 (rdT s), .slice A6 (rdV s).length c6] 124)
    have hsrc9 := hsrc8.alloc (.cells #[.int .i64 (rdF s), .int .i64 (rdT s), .slice A6 (rdV s).length c6] 124)
    have hB9 := hB.alloc hB.size (.cells #[.int .i64 (rdF s), .int .i64 (rdT s), .slice A6 (rdV s).length c6] 124)
    have hz9 := hby9.size
    have hok9 : ∀ e ∈ [r], rawK.ok (w8.alloc (.cells #[.int .i64 (rdF s), .int .i64 (rdT s), .slice A6 (rdV s).length c6] 124)) (fun b => g + 1 ≤ b ∧ b < (w8.alloc (.cells #[.int .i64 (rdF s), .int .i64 (rdT s), .slice A6 (rdV s).length c6] 124)).heap.size ∧ u5.ownBlock ≠ some b) e := fun e he => by
      obtain rfl : e = r := by simpa using he
      exact rawK.more (rawK.keep hok fun p hp => hby9.cell hp.2) fun b hb => ⟨by omega, by omega, fun e2 => by have := (hown3 b e2).2; omega⟩
    have hrl : rs.length ≤ 10000000 := by omega
    go_wp2_with (at_builtin; refine wpList_rows refRaw_ok rfl (.tmp 37) (.tmp 39) rfl hrow9 rfl rfl hone hok9 (by unfold maxLen; omega) (by omega) (by omega) ?_; intro v10 w10 hrow10 hg10)
    have hb10 := hrow9.below_app hg10 (by omega)
    refine ⟨⟨rdS4 s, rs ++ [r], hsrc9.below hb10 hgz, hE'.out, by simp; omega, hrow10, hr9.below hb10 (by omega), hB9.trans (hb10.mono (by omega)), ?_⟩, ?_⟩
    · rw [hsp.out, hgo.out]
      have hd : dat r = (rdF s, rdT s, rdV s) := by rw [hrd]; rfl
      cases splitL (rdS4 s) <;> simp [hd]
    · rw [(hsrc9.below hb10 hgz).refLen, hln.out]; exact hls
  · rw [hxb] at hx
    have hk : rdK s = 2 := by unfold rdK; rw [hxb]; rfl
    have eZ : rdZ s = numV (rdS2 s) 2 := by unfold rdZ; rw [hk]
    have e3 : rdS3 s = (tk (rdS2 s) 2).1 := by unfold rdS3; rw [hk]; rfl
    go_wp2_with fail
    obtain ⟨hq5, hg5⟩ := blk_store hq 1 (.int .i64 (rdT s))
    replace hq5 : Blk (w4.setCell ⟨w3.heap.size, 1, none⟩ (.int .i64 (rdT s))) w3.heap.size 124 #[.int .i64 (rdF s), .int .i64 (rdT s), .slice none 0 0] := hq5
    have hsrc2b := hsrc2.grown_up hg5 hlt3
    replace hG := grown_setCell hG (p := ⟨w3.heap.size, 1, none⟩) (.inr (Nat.le_refl _)) (.int .i64 (rdT s))
    generalize w4.setCell ⟨w3.heap.size, 1, none⟩ (.int .i64 (rdT s)) = w5 at *
    clear hq hg5 q1 q0 fz1 hsrc2
    refine (refU16_any w5 lo g (rdS2 s) hsrc2b).mono ?_
    rintro e w6 ⟨rfl, hsrc3, hg6⟩
    rw [← eZ]
    rw [← e3] at hsrc3
    replace hq5 := hq5.grown hg6 (by simp; omega)
    replace hG := grown_trans hG hg6
    clear hg6 eZ e3 hk hsrc2b
    go_wp2_with fail
    refine (refBytes_any w6 lo g (rdS3 s) hsrc3 (rdZ s)).mono ?_
    rintro e w7 ⟨v7, rfl, own6, hsrc4, hg7⟩
    have eV : (tk (rdS3 s) (rdZ s)).2 = rdV s := rfl
    have eS : (tk (rdS3 s) (rdZ s)).1 = rdS4 s := rfl
    rw [eV] at own6
    rw [eS] at hsrc4
    obtain ⟨A6, c6, rfl, hc6, hcm6, by6, hA6⟩ := own6.any2
    have hz6 := hG.size
    have lt6 := hq5.lt
    replace hq5 := hq5.grown hg7 (by simp; omega)
    replace hG := grown_trans hG hg7
    clear hg7 eV eS own6
    have q2 : w7.cell? ⟨w3.heap.size, 2, none⟩ = some (.slice none 0 0) := hq5.cellv 2 rfl
    have fz2 := hq5.frozen 2
    have lt7 := hq5.lt
    have hby := Byt.bytS (lo := w6.heap.size) by6 (fun _ => hA6)
    obtain ⟨hq8, hg8⟩ := blk_store hq5 2 (.slice A6 (rdV s).length c6)
    have hG8 := grown_setCell hG (p := ⟨w3.heap.size, 2, none⟩) (.inr (Nat.le_refl _)) (.slice A6 (rdV s).length c6)
    replace hby := hby.keep (w' := w7.setCell ⟨w3.heap.size, 2, none⟩ (.slice A6 (rdV s).length c6)) fun p hp => World.cell?_setCell_other _ _ _ _ (by intro e; have := hp.1; rw [← e] at this; simp at this; omega)
    have hsrc8 := hsrc4.grown_up hg8 hlt3
    have hz8 := hg8.size
    replace hq8 : Blk (w7.setCell ⟨w3.heap.size, 2, none⟩ (.slice A6 (rdV s).length c6)) w3.heap.size 124 #[.int .i64 (rdF s), .int .i64 (rdT s), .slice A6 (rdV s).length c6] := hq8
    generalize hw8 : w7.setCell ⟨w3.heap.size, 2, none⟩ (.slice A6 (rdV s).length c6) = w8 at *
    have hEc := hsrc8.err
    have ltE := hsrc8.lt
    clear hq5 hG hsrc4 hg8 by6
    replace hrow := hrow.kept hG8 (fun k e => by cases e; exact hgz) (Nat.le_refl _)
    replace hr := hr.grown hG8 (by simp; omega)
    replace hB := below_own hB hG8 hB.size (by omega)
    by_cases hE : (rdS4 s).e = 0
    rotate_left
    · have hne : ((rdS4 s).e != 0) = true := by simpa using hE
      have hno := splitL_no hl hE
      replace hE := Lib.hid hE
      replace hno := Lib.hid hno
      go_wp2_with fail
      refine (refFault_any w8 1 none 0 0).mono ?_
      rintro e w9 ⟨rfl, hb9⟩
      replace hr := hr.below hb9 hr.lt
      replace hB := hB.trans (hb9.mono hB.size)
      go_wp2_with (refine wpList_store_blk rfl hr 44 (.tmp 3) (.tmp 36) rfl rfl rfl rfl hi (by simp [Value.oneCell']) ?_; intro w10 hr10 hg10)
      try rw [Exit.noGoto_ret]
      refine bodyPost_ret (results_tc rfl _ rfl (load_blk hr10 Try.underlying44 rfl hi)) rfl ?_
      refine ⟨below_own hB hg10 hB.size (Nat.le_refl _), ?_⟩
      rw [hs0.out, hsp.out, hno.out]
      rfl
    have hgo := splitL_go hl hE
    obtain ⟨hls, -⟩ := rd_less hE
    rw [hE] at hEc
    have hE' := Lib.hid hE
    replace hgo := Lib.hid hgo
    clear hE
    have ltq := hq8.lt
    have q0 : w8.cell? ⟨w3.heap.size, 0, none⟩ = some (.int .i64 (rdF s)) := hq8.cellv 0 rfl
    have q1 : w8.cell? ⟨w3.heap.size, 1, none⟩ = some (.int .i64 (rdT s)) := hq8.cellv 1 rfl
    have q2 : w8.cell? ⟨w3.heap.size, 2, none⟩ = some (.slice A6 (rdV s).length c6) := hq8.cellv 2 rfl
    obtain ⟨r, hrd⟩ : ∃ r : RawV, r = ⟨rdF s, rdT s, A6, (rdV s).length, c6, rdV s⟩ := ⟨_, rfl⟩
    have hok : rawK.ok w8 (fun b => w6.heap.size ≤ b ∧ b < w8.heap.size) r := by rw [hrd]; exact ⟨hc6, hcm6, hby.more fun b hb => ⟨hb.1, by omega⟩⟩
    have hcr : rawK.cel r = [.int .i64 (rdF s), .int .i64 (rdT s), .slice A6 (rdV s).length c6] := by rw [hrd]; rfl
    have hone := seen_one w8 124 r #[.int .i64 (rdF s), .int .i64 (rdT s), .slice A6 (rdV s).length c6] (by rw [hcr]) hok (S' := fun b => b < w8.heap.size + 1) (fun b hb => hb.2) (Nat.lt_succ_self _) (fun b hb => by omega)
    have hby9 := (Below.refl w8.heap.size w8).alloc (Nat.le_refl _) (.cells #[.int .i64 (rdF s), .int .i64 (rdT s), .slice A6 (rdV s).length c6] 124)
    have hrow9 := hrow.alloc (.cells #[.int .i64 (rdF s), .int .i64 (rdT s), .slice A6 (rdV s).length c6] 124)
    have hr9 := hr.alloc (.cells #[.int .i64 (rdF s), .int .i64 (rdT s), .slice A6 (rdV s).length c6] 124)
    have hsrc9 := hsrc8.alloc (.cells #[.int .i64 (rdF s), .int .i64 (rdT s), .slice A6 (rdV s).length c6] 124)
    have hB9 := hB.alloc hB.size (.cells #[.int .i64 (rdF s), .int .i64 (rdT s), .slice A6 (rdV s).length c6] 124)
    have hz9 := hby9.size
    have hok9 : ∀ e ∈ [r], rawK.ok (w8.alloc (.cells #[.int .i64 (rdF s), .int .i64 (rdT s), .slice A6 (rdV s).length c6] 124)) (fun b => g + 1 ≤ b ∧ b < (w8.alloc (.cells #[.int .i64 (rdF s), .int .i64 (rdT s), .slice A6 (rdV s).length c6] 124)).heap.size ∧ u5.ownBlock ≠ some b) e := fun e he => by
      obtain rfl : e = r := by simpa using he
      exact rawK.more (rawK.keep hok fun p hp => hby9.cell hp.2) fun b hb => ⟨by omega, by omega, fun e2 => by have := (hown3 b e2).2; omega⟩
    have hrl : rs.length ≤ 10000000 := by omega
    go_wp2_with (at_builtin; refine wpList_rows refRaw_ok rfl (.tmp 37) (.tmp 39) rfl hrow9 rfl rfl hone hok9 (by unfold maxLen; omega) (by omega) (by omega) ?_; intro v10 w10 hrow10 hg10)
    have hb10 := hrow9.below_app hg10 (by omega)
    refine ⟨⟨rdS4 s, rs ++ [r], hsrc9.below hb10 hgz, hE'.out, by simp; omega, hrow10, hr9.below hb10 (by omega), hB9.trans (hb10.mono (by omega)), ?_⟩, ?_⟩
    · rw [hsp.out, hgo.out]
      have hd : dat r = (rdF s, rdT s, rdV s) := by rw [hrd]; rfl
      cases splitL (rdS4 s) <;> simp [hd]
    · rw [(hsrc9.below hb10 hgz).refLen, hln.out]; exact hls
end Go.Proofs.Ytfnclmacodchfaa
