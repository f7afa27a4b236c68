import Derived.Test.YtecmhakapomepaaGreatMConfigForms26
/- config: as many things as a byte says. -/
namespace Go.Proofs.YtecmhakapomepaaGreat
set_option linter.unusedVariables false
open Go Go.RowKit

theorem numV_1 (s : St) : numV s 1 ≤ 255 := by
  unfold numV
  split
  · omega
  · generalize (tk s ((1 : Nat) : Int)).2 = l
    have h0 := byAt_hi l 0
    simp only [getN]
    omega
theorem numV_u (s : St) (k : Nat) (h : k ≤ 4) : IsU (numV s k) := ⟨numV_lo s k, numV_4 s k h⟩
theorem numV_i (s : St) (k : Nat) (h : k ≤ 4) : IsI (numV s k) := ⟨by have := numV_lo s k; omega, by have := numV_4 s k h; omega⟩
theorem peerP_ok (s : St) (w : World) (S : Nat → Prop) : peerK.ok w S (peerP s).1 := ⟨numV_i _ _ (by omega), numV_i _ _ (by omega), numV_i _ _ (by omega), numV_i _ _ (by omega), numV_i _ _ (by omega), numV_i _ _ (by omega), numV_i _ _ (by omega)⟩
theorem siteP_ok (s : St) (w : World) (S : Nat → Prop) : siteK.ok w S (siteP s).1 := ⟨numV_i _ _ (by omega), numV_u _ _ (by omega), numV_i _ _ (by omega)⟩
theorem bndP_ok (s : St) (w : World) (S : Nat → Prop) : bndK.ok w S (bndP s).1 := ⟨numV_i _ _ (by omega), numV_u _ _ (by omega), numV_i _ _ (by omega)⟩
theorem peerM_ok : ElemOk Tryz.prog 23 62 peerK.size 56 (.agg #[.int .i64 0, .int .i64 0, .int .i64 0, .int .i64 0, .int .i64 0, .int .i64 0, .int .i64 0]) := ⟨Tryz.underlying23, by kernel_rfl, rfl, peerK.pos⟩
theorem vipM_ok : ElemOk Tryz.prog 24 53 vipK.size 40 (.agg #[.int .u32 0, .int .i64 0, .slice none 0 0]) := ⟨Tryz.underlying24, by kernel_rfl, rfl, vipK.pos⟩
theorem siteM_ok : ElemOk Tryz.prog 25 72 siteK.size 24 (.agg #[.int .i64 0, .int .u32 0, .int .i64 0]) := ⟨Tryz.underlying25, by kernel_rfl, rfl, siteK.pos⟩
theorem bndM_ok : ElemOk Tryz.prog 51 67 bndK.size 24 (.agg #[.int .i64 0, .int .u32 0, .int .i64 0]) := ⟨Tryz.underlying51, by kernel_rfl, rfl, bndK.pos⟩
theorem rows_grown {α : Type} {R : RK α} {w w' : World} {B : Nat} {et : TypeId} {v : Value} {l : List α} {gs : Nat} (h : Rows R w B B et v l) (hg : w.grownBy w' (some gs)) (hlt : gs < B) : Rows R w' B B et v l :=
  h.kept hg (fun k e => by injection e with e; omega) (Nat.le_refl _)
theorem PEnv.belowB {B : Nat} {w w' : World} {gs g4 g5 g6 g7 g8 : Nat} (h : PEnv w gs g4 g5 g6 g7 g8) (hb : Below B w w') (h4 : g4 < B) (h5 : g5 < B) (h6 : g6 < B) (h7 : g7 < B) (h8 : g8 < B) : PEnv w' gs g4 g5 g6 g7 g8 :=
  ⟨h.s4.below hb h4, h.n8.below hb h5, h.n16.below hb h6, h.ad.below hb h7, h.n32.below hb h8, h.ne⟩
theorem grown_belowB {B : Nat} {w w1 w2 : World} {row : Option Nat} (h : w.grownBy w1 row) (hb : Below B w1 w2) (hB : w.heap.size ≤ B) : w.grownBy w2 row :=
  ⟨hb.os.trans h.os, hb.tape.trans h.tape, hb.output.trans h.output, Nat.le_trans h.size hb.size, fun b h1 h2 => (hb.block b (Nat.lt_of_lt_of_le h1 hB)).trans (h.block b h1 h2)⟩
set_option maxRecDepth 100000 in
set_option maxHeartbeats 8000000 in
theorem manyB_any (w : World) (gs g4 g5 g6 g7 g8 : Nat) (s : St) (hE : PEnv w gs g4 g5 g6 g7 g8) (hs : Src w gs s) : Calls Tryz.prog 25 #[.pointer (some ⟨gs, 0, none⟩), .func (.func 26) #[] #[.pointer (some ⟨g5, 0, none⟩), .pointer (some ⟨g7, 0, none⟩)]] w fun e w' => ∃ v, e = .returned v ∧ Rows bndK w' w.heap.size w.heap.size 67 v (listP bndP s).1 ∧ Src w' gs (listP bndP s).2 ∧ w.grownBy w' (some gs) := by
  obtain ⟨m, hm⟩ : ∃ m : Nat, numV s 1 = m := ⟨(numV s 1).toNat, by have := numV_lo s 1; omega⟩
  have hm255 := numV_1 s
  have hlist : listP bndP s = manyP bndP m (nx s 1) := by unfold listP; rw [hm]; rfl
  obtain ⟨s0, hs0⟩ : ∃ s0, s0 = nx s 1 := ⟨_, rfl⟩
  rw [hlist, ← hs0]
  clear hlist
  obtain ⟨B, hB⟩ : ∃ B, B = w.heap.size := ⟨_, rfl⟩
  rw [← hB]
  have e4 : g4 < B := by rw [hB]; exact hE.s4.lt
  have e5 : g5 < B := by rw [hB]; exact hE.n8.lt
  have e6 : g6 < B := by rw [hB]; exact hE.n16.lt
  have e7 : g7 < B := by rw [hB]; exact hE.ad.lt
  have e8 : g8 < B := by rw [hB]; exact hE.n32.lt
  have hBw2 : w.heap.size ≤ B := by rw [hB]; exact Nat.le_refl _
  have hgB : gs < B := by rw [hB]; exact hs.lt
  have hBw : B ≤ w.heap.size := Nat.le_of_eq hB
  replace hB := Lib.hid hB
  go_enter Tryz.func25, Tryz.ntmps25
  go_wp2_with fail
  refine (u8P w gs s hs).mono ?_
  rintro e w1 ⟨rfl, hs1, hg1⟩
  replace hE := hE.grown hg1
  rw [hm] at hm255 ⊢
  clear hs
  rw [← hs0] at hs1
  clear hs0 hm
  have hm2 : m ≤ 255 := by omega
  have hz1 := hg1.size
  go_wp2_with fail
  go_loopw [5, 6] (fun lv nv wr => ∃ (v : Value) (k : Nat) (st : St) (L : List BndV), v = lv ∧ nv = .int .i64 (k : Int) ∧ k ≤ 255 ∧ (manyP bndP m s0).1 = L ++ (manyP bndP k st).1 ∧ (manyP bndP m s0).2 = (manyP bndP k st).2 ∧ L.length + k ≤ 255 ∧ Rows bndK wr B B 67 v L ∧ Src wr gs st ∧ PEnv wr gs g4 g5 g6 g7 g8 ∧ w.grownBy wr (some gs)) (fun _ nv _ => (intOf nv).toNat)
  case atStart => exact ⟨_, m, s0, [], rfl, rfl, hm2, rfl, rfl, by simpa using hm2, Rows.nil _ _ _ _, hs1, hE, hg1⟩
  case round =>
  clear hs1 hE hg1
  obtain ⟨lv, k, st, L, rfl, rfl, hk, hl1, hl2, hlen, hr, hst, hE, hg⟩ := hrel
  have hzr := hg.size
  replace hl1 := Lib.hid hl1
  replace hl2 := Lib.hid hl2
  cases k with
  | zero =>
    go_wp2_with fail
    go_ret
    have e1 := hl1.out
    have e2 := hl2.out
    rw [manyP] at e1 e2
    rw [List.append_nil] at e1
    exact ⟨_, rfl, by rw [e1]; exact hr, by rw [e2]; exact hst, hg⟩
  | succ k =>
    have d1 : decide ((0 : Int) < ((k + 1 : Nat) : Int)) = true := decide_eq_true (by omega)
    have d1' : (0 : Int) < ((k + 1 : Nat) : Int) := by omega
    by_cases he : st.e = 0
    · have d2 : decide (st.e = 0) = true := by simpa using he
      have e1 : manyP bndP (k + 1) st = ((bndP st).1 :: (manyP bndP k (bndP st).2).1, (manyP bndP k (bndP st).2).2) := by rw [manyP, if_pos he]
      have e2 := hl1.out
      have e3 := hl2.out
      rw [e1] at e2 e3
      clear e1 hl1 hl2
      go_wp2_with fail
      refine (err_any wr gs st hst).mono ?_
      rintro e w' ⟨rfl, rfl⟩
      rw [he]
      replace he := Lib.hid he
      clear d2
      go_wp2_with fail
      refine (bnd1_any wr gs g4 g5 g6 g7 g8 st hE hst).mono ?_
      rintro e w2 ⟨rfl, hs2, hg2⟩
      obtain ⟨p, hp⟩ : ∃ p, p = (bndP st).1 := ⟨_, rfl⟩
      obtain ⟨st2, hst2⟩ : ∃ st2, st2 = (bndP st).2 := ⟨_, rfl⟩
      have hokp : ∀ (w : World) (S : Nat → Prop), bndK.ok w S p := fun w S => by rw [hp]; exact bndP_ok st w S
      rw [← hp, ← hst2] at e2
      rw [← hst2] at e3
      rw [← hp]
      rw [← hst2] at hs2
      rw [show (bndC p).toArray = #[.int .i64 p.id, .int .u32 p.ad, .int .i64 p.wt] from rfl]
      replace e2 := Lib.hid e2
      replace e3 := Lib.hid e3
      clear hp hst2
      have hbx := (Below.refl w2.heap.size w2).alloc (Nat.le_refl _) (.cells #[.int .i64 p.id, .int .u32 p.ad, .int .i64 p.wt] 67)
      have hz2 := hg2.size
      have hBz : B ≤ w2.heap.size := by omega
      have hr2 := rows_grown hr hg2 hgB
      have hlit : Seen bndK (w2.alloc (.cells #[.int .i64 p.id, .int .u32 p.ad, .int .i64 p.wt] 67)) (fun _ => True) (some ⟨w2.heap.size, 0, none⟩) 1 [p] := seen_one w2 67 p #[.int .i64 p.id, .int .u32 p.ad, .int .i64 p.wt] rfl (S := fun _ => False) (hokp _ _) (fun _ h => h.elim) trivial (fun _ h => h.elim)
      have hr3 := hr2.alloc (.cells #[.int .i64 p.id, .int .u32 p.ad, .int .i64 p.wt] 67)
      have hs3 := hs2.alloc (.cells #[.int .i64 p.id, .int .u32 p.ad, .int .i64 p.wt] 67)
      have hE3 := (hE.grown hg2).alloc (.cells #[.int .i64 p.id, .int .u32 p.ad, .int .i64 p.wt] 67)
      have hg3 := grown_belowB (grown_trans hg hg2) (hbx.mono hBz) hBw2
      have hw3 : B ≤ (w2.alloc (.cells #[.int .i64 p.id, .int .u32 p.ad, .int .i64 p.wt] 67)).heap.size := Nat.le_trans hBz hbx.size
      have hL255 : L.length + 1 ≤ 256 := by omega
      have hL1 : L.length + 1 ≤ maxLen := by unfold maxLen; omega
      have hL2 : (L.length + 1) * 24 ≤ 140737488355328 := by omega
      have hokE : ∀ e ∈ [p], bndK.ok (w2.alloc (.cells #[.int .i64 p.id, .int .u32 p.ad, .int .i64 p.wt] 67)) (fun b => B ≤ b ∧ b < (w2.alloc (.cells #[.int .i64 p.id, .int .u32 p.ad, .int .i64 p.wt] 67)).heap.size ∧ lv.ownBlock ≠ some b) e := by
        intro e he
        rw [List.mem_singleton.1 he]
        exact hokp _ _
      have hlen2 : (L ++ [p]).length + k ≤ 255 := by simp; omega
      go_wp2_with (at_builtin; refine wpList_rows bndM_ok rfl (.tmp 18) (.tmp 21) rfl hr3 rfl rfl hlit hokE hL1 hL2 hw3 ?_; intro v4 w4 hr4 hg4)
      have hb4 := hr3.below_app hg4 hw3
      refine ⟨⟨v4, k, st2, L ++ [p], rfl, by go_num, by omega, by rw [e2.out, List.append_assoc]; rfl, e3.out, hlen2, hr4, hs3.below hb4 hgB, hE3.belowB hb4 e4 e5 e6 e7 e8, grown_belowB hg3 hb4 hBw2⟩, by simp [intOf]⟩
    · have d2 : decide (st.e = 0) = false := by simpa using he
      have d3 : (st.e == 0) = false := by simpa using he
      have e1 : manyP bndP (k + 1) st = ([], st) := by rw [manyP, if_neg he]
      have e2 := hl1.out
      have e3 := hl2.out
      rw [e1] at e2 e3
      rw [List.append_nil] at e2
      clear e1 hl1 hl2
      replace e2 := Lib.hid e2
      replace e3 := Lib.hid e3
      replace he := Lib.hid he
      go_wp2_with fail
      refine (err_any wr gs st hst).mono ?_
      rintro e w' ⟨rfl, rfl⟩
      go_wp2_with fail
      go_ret
      exact ⟨_, rfl, by rw [e2.out]; exact hr, by rw [e3.out]; exact hst, hg⟩
set_option maxRecDepth 100000 in
set_option maxHeartbeats 8000000 in
theorem manyP_any (w : World) (gs g4 g5 g6 g7 g8 : Nat) (s : St) (hE : PEnv w gs g4 g5 g6 g7 g8) (hs : Src w gs s) : Calls Tryz.prog 21 #[.pointer (some ⟨gs, 0, none⟩), .func (.func 22) #[] #[.pointer (some ⟨g6, 0, none⟩), .pointer (some ⟨g8, 0, none⟩), .pointer (some ⟨g5, 0, none⟩)]] w fun e w' => ∃ v, e = .returned v ∧ Rows peerK w' w.heap.size w.heap.size 62 v (listP peerP s).1 ∧ Src w' gs (listP peerP s).2 ∧ w.grownBy w' (some gs) := by
  obtain ⟨m, hm⟩ : ∃ m : Nat, numV s 1 = m := ⟨(numV s 1).toNat, by have := numV_lo s 1; omega⟩
  have hm255 := numV_1 s
  have hlist : listP peerP s = manyP peerP m (nx s 1) := by unfold listP; rw [hm]; rfl
  obtain ⟨s0, hs0⟩ : ∃ s0, s0 = nx s 1 := ⟨_, rfl⟩
  rw [hlist, ← hs0]
  clear hlist
  obtain ⟨B, hB⟩ : ∃ B, B = w.heap.size := ⟨_, rfl⟩
  rw [← hB]
  have e4 : g4 < B := by rw [hB]; exact hE.s4.lt
  have e5 : g5 < B := by rw [hB]; exact hE.n8.lt
  have e6 : g6 < B := by rw [hB]; exact hE.n16.lt
  have e7 : g7 < B := by rw [hB]; exact hE.ad.lt
  have e8 : g8 < B := by rw [hB]; exact hE.n32.lt
  have hBw2 : w.heap.size ≤ B := by rw [hB]; exact Nat.le_refl _
  have hgB : gs < B := by rw [hB]; exact hs.lt
  have hBw : B ≤ w.heap.size := Nat.le_of_eq hB
  replace hB := Lib.hid hB
  go_enter Tryz.func21, Tryz.ntmps21
  go_wp2_with fail
  refine (u8P w gs s hs).mono ?_
  rintro e w1 ⟨rfl, hs1, hg1⟩
  replace hE := hE.grown hg1
  rw [hm] at hm255 ⊢
  clear hs
  rw [← hs0] at hs1
  clear hs0 hm
  have hm2 : m ≤ 255 := by omega
  have hz1 := hg1.size
  go_wp2_with fail
  go_loopw [5, 6] (fun lv nv wr => ∃ (v : Value) (k : Nat) (st : St) (L : List PeerV), v = lv ∧ nv = .int .i64 (k : Int) ∧ k ≤ 255 ∧ (manyP peerP m s0).1 = L ++ (manyP peerP k st).1 ∧ (manyP peerP m s0).2 = (manyP peerP k st).2 ∧ L.length + k ≤ 255 ∧ Rows peerK wr B B 62 v L ∧ Src wr gs st ∧ PEnv wr gs g4 g5 g6 g7 g8 ∧ w.grownBy wr (some gs)) (fun _ nv _ => (intOf nv).toNat)
  case atStart => exact ⟨_, m, s0, [], rfl, rfl, hm2, rfl, rfl, by simpa using hm2, Rows.nil _ _ _ _, hs1, hE, hg1⟩
  case round =>
  clear hs1 hE hg1
  obtain ⟨lv, k, st, L, rfl, rfl, hk, hl1, hl2, hlen, hr, hst, hE, hg⟩ := hrel
  have hzr := hg.size
  replace hl1 := Lib.hid hl1
  replace hl2 := Lib.hid hl2
  cases k with
  | zero =>
    go_wp2_with fail
    go_ret
    have e1 := hl1.out
    have e2 := hl2.out
    rw [manyP] at e1 e2
    rw [List.append_nil] at e1
    exact ⟨_, rfl, by rw [e1]; exact hr, by rw [e2]; exact hst, hg⟩
  | succ k =>
    have d1 : decide ((0 : Int) < ((k + 1 : Nat) : Int)) = true := decide_eq_true (by omega)
    have d1' : (0 : Int) < ((k + 1 : Nat) : Int) := by omega
    by_cases he : st.e = 0
    · have d2 : decide (st.e = 0) = true := by simpa using he
      have e1 : manyP peerP (k + 1) st = ((peerP st).1 :: (manyP peerP k (peerP st).2).1, (manyP peerP k (peerP st).2).2) := by rw [manyP, if_pos he]
      have e2 := hl1.out
      have e3 := hl2.out
      rw [e1] at e2 e3
      clear e1 hl1 hl2
      go_wp2_with fail
      refine (err_any wr gs st hst).mono ?_
      rintro e w' ⟨rfl, rfl⟩
      rw [he]
      replace he := Lib.hid he
      clear d2
      go_wp2_with fail
      refine (peer1_any wr gs g4 g5 g6 g7 g8 st hE hst).mono ?_
      rintro e w2 ⟨rfl, hs2, hg2⟩
      obtain ⟨p, hp⟩ : ∃ p, p = (peerP st).1 := ⟨_, rfl⟩
      obtain ⟨st2, hst2⟩ : ∃ st2, st2 = (peerP st).2 := ⟨_, rfl⟩
      have hokp : ∀ (w : World) (S : Nat → Prop), peerK.ok w S p := fun w S => by rw [hp]; exact peerP_ok st w S
      rw [← hp, ← hst2] at e2
      rw [← hst2] at e3
      rw [← hp]
      rw [← hst2] at hs2
      rw [show (peerC p).toArray = #[.int .i64 p.as_, .int .i64 p.hold, .int .i64 p.retry, .int .i64 p.gap, .int .i64 p.med, .int .i64 p.prep, .int .i64 p.back] from rfl]
      replace e2 := Lib.hid e2
      replace e3 := Lib.hid e3
      clear hp hst2
      have hbx := (Below.refl w2.heap.size w2).alloc (Nat.le_refl _) (.cells #[.int .i64 p.as_, .int .i64 p.hold, .int .i64 p.retry, .int .i64 p.gap, .int .i64 p.med, .int .i64 p.prep, .int .i64 p.back] 62)
      have hz2 := hg2.size
      have hBz : B ≤ w2.heap.size := by omega
      have hr2 := rows_grown hr hg2 hgB
      have hlit : Seen peerK (w2.alloc (.cells #[.int .i64 p.as_, .int .i64 p.hold, .int .i64 p.retry, .int .i64 p.gap, .int .i64 p.med, .int .i64 p.prep, .int .i64 p.back] 62)) (fun _ => True) (some ⟨w2.heap.size, 0, none⟩) 1 [p] := seen_one w2 62 p #[.int .i64 p.as_, .int .i64 p.hold, .int .i64 p.retry, .int .i64 p.gap, .int .i64 p.med, .int .i64 p.prep, .int .i64 p.back] rfl (S := fun _ => False) (hokp _ _) (fun _ h => h.elim) trivial (fun _ h => h.elim)
      have hr3 := hr2.alloc (.cells #[.int .i64 p.as_, .int .i64 p.hold, .int .i64 p.retry, .int .i64 p.gap, .int .i64 p.med, .int .i64 p.prep, .int .i64 p.back] 62)
      have hs3 := hs2.alloc (.cells #[.int .i64 p.as_, .int .i64 p.hold, .int .i64 p.retry, .int .i64 p.gap, .int .i64 p.med, .int .i64 p.prep, .int .i64 p.back] 62)
      have hE3 := (hE.grown hg2).alloc (.cells #[.int .i64 p.as_, .int .i64 p.hold, .int .i64 p.retry, .int .i64 p.gap, .int .i64 p.med, .int .i64 p.prep, .int .i64 p.back] 62)
      have hg3 := grown_belowB (grown_trans hg hg2) (hbx.mono hBz) hBw2
      have hw3 : B ≤ (w2.alloc (.cells #[.int .i64 p.as_, .int .i64 p.hold, .int .i64 p.retry, .int .i64 p.gap, .int .i64 p.med, .int .i64 p.prep, .int .i64 p.back] 62)).heap.size := Nat.le_trans hBz hbx.size
      have hL255 : L.length + 1 ≤ 256 := by omega
      have hL1 : L.length + 1 ≤ maxLen := by unfold maxLen; omega
      have hL2 : (L.length + 1) * 56 ≤ 140737488355328 := by omega
      have hokE : ∀ e ∈ [p], peerK.ok (w2.alloc (.cells #[.int .i64 p.as_, .int .i64 p.hold, .int .i64 p.retry, .int .i64 p.gap, .int .i64 p.med, .int .i64 p.prep, .int .i64 p.back] 62)) (fun b => B ≤ b ∧ b < (w2.alloc (.cells #[.int .i64 p.as_, .int .i64 p.hold, .int .i64 p.retry, .int .i64 p.gap, .int .i64 p.med, .int .i64 p.prep, .int .i64 p.back] 62)).heap.size ∧ lv.ownBlock ≠ some b) e := by
        intro e he
        rw [List.mem_singleton.1 he]
        exact hokp _ _
      have hlen2 : (L ++ [p]).length + k ≤ 255 := by simp; omega
      go_wp2_with (at_builtin; refine wpList_rows peerM_ok rfl (.tmp 18) (.tmp 21) rfl hr3 rfl rfl hlit hokE hL1 hL2 hw3 ?_; intro v4 w4 hr4 hg4)
      have hb4 := hr3.below_app hg4 hw3
      refine ⟨⟨v4, k, st2, L ++ [p], rfl, by go_num, by omega, by rw [e2.out, List.append_assoc]; rfl, e3.out, hlen2, hr4, hs3.below hb4 hgB, hE3.belowB hb4 e4 e5 e6 e7 e8, grown_belowB hg3 hb4 hBw2⟩, by simp [intOf]⟩
    · have d2 : decide (st.e = 0) = false := by simpa using he
      have d3 : (st.e == 0) = false := by simpa using he
      have e1 : manyP peerP (k + 1) st = ([], st) := by rw [manyP, if_neg he]
      have e2 := hl1.out
      have e3 := hl2.out
      rw [e1] at e2 e3
      rw [List.append_nil] at e2
      clear e1 hl1 hl2
      replace e2 := Lib.hid e2
      replace e3 := Lib.hid e3
      replace he := Lib.hid he
      go_wp2_with fail
      refine (err_any wr gs st hst).mono ?_
      rintro e w' ⟨rfl, rfl⟩
      go_wp2_with fail
      go_ret
      exact ⟨_, rfl, by rw [e2.out]; exact hr, by rw [e3.out]; exact hst, hg⟩
set_option maxRecDepth 100000 in
set_option maxHeartbeats 8000000 in
theorem manyS_any (w : World) (gs g4 g5 g6 g7 g8 : Nat) (s : St) (hE : PEnv w gs g4 g5 g6 g7 g8) (hs : Src w gs s) : Calls Tryz.prog 27 #[.pointer (some ⟨gs, 0, none⟩), .func (.func 28) #[] #[.pointer (some ⟨g5, 0, none⟩), .pointer (some ⟨g7, 0, none⟩), .pointer (some ⟨g8, 0, none⟩)]] w fun e w' => ∃ v, e = .returned v ∧ Rows siteK w' w.heap.size w.heap.size 72 v (listP siteP s).1 ∧ Src w' gs (listP siteP s).2 ∧ w.grownBy w' (some gs) := by
  obtain ⟨m, hm⟩ : ∃ m : Nat, numV s 1 = m := ⟨(numV s 1).toNat, by have := numV_lo s 1; omega⟩
  have hm255 := numV_1 s
  have hlist : listP siteP s = manyP siteP m (nx s 1) := by unfold listP; rw [hm]; rfl
  obtain ⟨s0, hs0⟩ : ∃ s0, s0 = nx s 1 := ⟨_, rfl⟩
  rw [hlist, ← hs0]
  clear hlist
  obtain ⟨B, hB⟩ : ∃ B, B = w.heap.size := ⟨_, rfl⟩
  rw [← hB]
  have e4 : g4 < B := by rw [hB]; exact hE.s4.lt
  have e5 : g5 < B := by rw [hB]; exact hE.n8.lt
  have e6 : g6 < B := by rw [hB]; exact hE.n16.lt
  have e7 : g7 < B := by rw [hB]; exact hE.ad.lt
  have e8 : g8 < B := by rw [hB]; exact hE.n32.lt
  have hBw2 : w.heap.size ≤ B := by rw [hB]; exact Nat.le_refl _
  have hgB : gs < B := by rw [hB]; exact hs.lt
  have hBw : B ≤ w.heap.size := Nat.le_of_eq hB
  replace hB := Lib.hid hB
  go_enter Tryz.func27, Tryz.ntmps27
  go_wp2_with fail
  refine (u8P w gs s hs).mono ?_
  rintro e w1 ⟨rfl, hs1, hg1⟩
  replace hE := hE.grown hg1
  rw [hm] at hm255 ⊢
  clear hs
  rw [← hs0] at hs1
  clear hs0 hm
  have hm2 : m ≤ 255 := by omega
  have hz1 := hg1.size
  go_wp2_with fail
  go_loopw [5, 6] (fun lv nv wr => ∃ (v : Value) (k : Nat) (st : St) (L : List SiteV), v = lv ∧ nv = .int .i64 (k : Int) ∧ k ≤ 255 ∧ (manyP siteP m s0).1 = L ++ (manyP siteP k st).1 ∧ (manyP siteP m s0).2 = (manyP siteP k st).2 ∧ L.length + k ≤ 255 ∧ Rows siteK wr B B 72 v L ∧ Src wr gs st ∧ PEnv wr gs g4 g5 g6 g7 g8 ∧ w.grownBy wr (some gs)) (fun _ nv _ => (intOf nv).toNat)
  case atStart => exact ⟨_, m, s0, [], rfl, rfl, hm2, rfl, rfl, by simpa using hm2, Rows.nil _ _ _ _, hs1, hE, hg1⟩
  case round =>
  clear hs1 hE hg1
  obtain ⟨lv, k, st, L, rfl, rfl, hk, hl1, hl2, hlen, hr, hst, hE, hg⟩ := hrel
  have hzr := hg.size
  replace hl1 := Lib.hid hl1
  replace hl2 := Lib.hid hl2
  cases k with
  | zero =>
    go_wp2_with fail
    go_ret
    have e1 := hl1.out
    have e2 := hl2.out
    rw [manyP] at e1 e2
    rw [List.append_nil] at e1
    exact ⟨_, rfl, by rw [e1]; exact hr, by rw [e2]; exact hst, hg⟩
  | succ k =>
    have d1 : decide ((0 : Int) < ((k + 1 : Nat) : Int)) = true := decide_eq_true (by omega)
    have d1' : (0 : Int) < ((k + 1 : Nat) : Int) := by omega
    by_cases he : st.e = 0
    · have d2 : decide (st.e = 0) = true := by simpa using he
      have e1 : manyP siteP (k + 1) st = ((siteP st).1 :: (manyP siteP k (siteP st).2).1, (manyP siteP k (siteP st).2).2) := by rw [manyP, if_pos he]
      have e2 := hl1.out
      have e3 := hl2.out
      rw [e1] at e2 e3
      clear e1 hl1 hl2
      go_wp2_with fail
      refine (err_any wr gs st hst).mono ?_
      rintro e w' ⟨rfl, rfl⟩
      rw [he]
      replace he := Lib.hid he
      clear d2
      go_wp2_with fail
      refine (site1_any wr gs g4 g5 g6 g7 g8 st hE hst).mono ?_
      rintro e w2 ⟨rfl, hs2, hg2⟩
      obtain ⟨p, hp⟩ : ∃ p, p = (siteP st).1 := ⟨_, rfl⟩
      obtain ⟨st2, hst2⟩ : ∃ st2, st2 = (siteP st).2 := ⟨_, rfl⟩
      have hokp : ∀ (w : World) (S : Nat → Prop), siteK.ok w S p := fun w S => by rw [hp]; exact siteP_ok st w S
      rw [← hp, ← hst2] at e2
      rw [← hst2] at e3
      rw [← hp]
      rw [← hst2] at hs2
      rw [show (siteC p).toArray = #[.int .i64 p.id, .int .u32 p.ad, .int .i64 p.cost] from rfl]
      replace e2 := Lib.hid e2
      replace e3 := Lib.hid e3
      clear hp hst2
      have hbx := (Below.refl w2.heap.size w2).alloc (Nat.le_refl _) (.cells #[.int .i64 p.id, .int .u32 p.ad, .int .i64 p.cost] 72)
      have hz2 := hg2.size
      have hBz : B ≤ w2.heap.size := by omega
      have hr2 := rows_grown hr hg2 hgB
      have hlit : Seen siteK (w2.alloc (.cells #[.int .i64 p.id, .int .u32 p.ad, .int .i64 p.cost] 72)) (fun _ => True) (some ⟨w2.heap.size, 0, none⟩) 1 [p] := seen_one w2 72 p #[.int .i64 p.id, .int .u32 p.ad, .int .i64 p.cost] rfl (S := fun _ => False) (hokp _ _) (fun _ h => h.elim) trivial (fun _ h => h.elim)
      have hr3 := hr2.alloc (.cells #[.int .i64 p.id, .int .u32 p.ad, .int .i64 p.cost] 72)
      have hs3 := hs2.alloc (.cells #[.int .i64 p.id, .int .u32 p.ad, .int .i64 p.cost] 72)
      have hE3 := (hE.grown hg2).alloc (.cells #[.int .i64 p.id, .int .u32 p.ad, .int .i64 p.cost] 72)
      have hg3 := grown_belowB (grown_trans hg hg2) (hbx.mono hBz) hBw2
      have hw3 : B ≤ (w2.alloc (.cells #[.int .i64 p.id, .int .u32 p.ad, .int .i64 p.cost] 72)).heap.size := Nat.le_trans hBz hbx.size
      have hL255 : L.length + 1 ≤ 256 := by omega
      have hL1 : L.length + 1 ≤ maxLen := by unfold maxLen; omega
      have hL2 : (L.length + 1) * 24 ≤ 140737488355328 := by omega
      have hokE : ∀ e ∈ [p], siteK.ok (w2.alloc (.cells #[.int .i64 p.id, .int .u32 p.ad, .int .i64 p.cost] 72)) (fun b => B ≤ b ∧ b < (w2.alloc (.cells #[.int .i64 p.id, .int .u32 p.ad, .int .i64 p.cost] 72)).heap.size ∧ lv.ownBlock ≠ some b) e := by
        intro e he
        rw [List.mem_singleton.1 he]
        exact hokp _ _
      have hlen2 : (L ++ [p]).length + k ≤ 255 := by simp; omega
      go_wp2_with (at_builtin; refine wpList_rows siteM_ok rfl (.tmp 18) (.tmp 21) rfl hr3 rfl rfl hlit hokE hL1 hL2 hw3 ?_; intro v4 w4 hr4 hg4)
      have hb4 := hr3.below_app hg4 hw3
      refine ⟨⟨v4, k, st2, L ++ [p], rfl, by go_num, by omega, by rw [e2.out, List.append_assoc]; rfl, e3.out, hlen2, hr4, hs3.below hb4 hgB, hE3.belowB hb4 e4 e5 e6 e7 e8, grown_belowB hg3 hb4 hBw2⟩, by simp [intOf]⟩
    · have d2 : decide (st.e = 0) = false := by simpa using he
      have d3 : (st.e == 0) = false := by simpa using he
      have e1 : manyP siteP (k + 1) st = ([], st) := by rw [manyP, if_neg he]
      have e2 := hl1.out
      have e3 := hl2.out
      rw [e1] at e2 e3
      rw [List.append_nil] at e2
      clear e1 hl1 hl2
      replace e2 := Lib.hid e2
      replace e3 := Lib.hid e3
      replace he := Lib.hid he
      go_wp2_with fail
      refine (err_any wr gs st hst).mono ?_
      rintro e w' ⟨rfl, rfl⟩
      go_wp2_with fail
      go_ret
      exact ⟨_, rfl, by rw [e2.out]; exact hr, by rw [e3.out]; exact hst, hg⟩
end Go.Proofs.YtecmhakapomepaaGreat
