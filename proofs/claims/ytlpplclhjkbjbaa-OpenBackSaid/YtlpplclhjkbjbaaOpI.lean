/- open: what the bodies of bytes are; caps. -/
import Derived.Test.YtlpplclhjkbjbaaOpH
namespace Go.Proofs.Ytlpplclhjkbjbaa
set_option linter.unusedVariables false
open Go.RowKit

theorem grown_below {a b c : World} {row : Option Nat} (h : a.grownBy b row) (k : Below a.heap.size b c) : a.grownBy c row :=
  ⟨k.os.trans h.os, k.tape.trans h.tape, k.output.trans h.output, Nat.le_trans h.size k.size, fun i hi hne => (k.block i hi).trans (h.block i hi hne)⟩
/-- one capability, read. -/
def cpT (s : St) : Int := numV s 1
def cpS1 (s : St) : St := (tk s 1).1
def cpN (s : St) : Int := numV (cpS1 s) 1
def cpS2 (s : St) : St := (tk (cpS1 s) 1).1
def cpV (s : St) : List UInt8 := (tk (cpS2 s) (cpN s)).2
def cpS3 (s : St) : St := (tk (cpS2 s) (cpN s)).1
theorem cp_less {s : St} (h : (cpS3 s).e = 0) : (cpS3 s).l.length < s.l.length ∧ s.e = 0 := by
  have h2 := tk_e _ _ h
  have h1 := tk_e _ _ h2
  have h0 := tk_e _ _ h1
  have l1 := tk_lt s 1 h1
  have l2 := tk_le (cpS1 s) 1
  have l3 := tk_le (cpS2 s) (cpN s)
  refine ⟨?_, h0⟩
  have e3 : (cpS3 s).l.length ≤ (cpS2 s).l.length := l3
  have e2 : (cpS2 s).l.length ≤ (cpS1 s).l.length := l2
  have e1 : (cpS1 s).l.length + 1 = s.l.length := l1
  omega
theorem cp_le (s : St) : (cpS3 s).l.length ≤ s.l.length := Nat.le_trans (tk_le (cpS2 s) (cpN s)) (Nat.le_trans (tk_le (cpS1 s) 1) (tk_le s 1))
/-- elements one behind the other, each read by rd, the source behind it nx; none where one lacks its end. -/
def seqF {D : Type} (rd : St → D) (nx : St → St) : Nat → St → Option (List D)
  | 0, _ => some []
  | n + 1, s => if 0 < leftV s then (if (nx s).e = 0 then (seqF rd nx n (nx s)).map (rd s :: ·) else none) else some []
section
variable {D : Type} {rd : St → D} {nx : St → St} (hless : ∀ s, (nx s).e = 0 → (nx s).l.length < s.l.length)
include hless
theorem seqF_fuel : ∀ (n m : Nat) (s : St), s.l.length < n → s.l.length < m → seqF rd nx n s = seqF rd nx m s
  | 0, _, _, h, _ => absurd h (by omega)
  | _ + 1, 0, _, _, h => absurd h (by omega)
  | n + 1, m + 1, s, h, h' => by
    unfold seqF
    by_cases h0 : 0 < leftV s
    · rw [if_pos h0, if_pos h0]
      by_cases h1 : (nx s).e = 0
      · rw [if_pos h1, if_pos h1]
        have := hless s h1
        rw [seqF_fuel n m (nx s) (by omega) (by omega)]
      · rw [if_neg h1, if_neg h1]
    · rw [if_neg h0, if_neg h0]
end
def seqL {D : Type} (rd : St → D) (nx : St → St) (s : St) : Option (List D) := seqF rd nx (s.l.length + 1) s
section
variable {D : Type} {rd : St → D} {nx : St → St}
theorem seqL_end {s : St} (h : ¬ 0 < leftV s) : seqL rd nx s = some [] := by unfold seqL seqF; rw [if_neg h]
theorem seqL_no {s : St} (h : 0 < leftV s) (h1 : (nx s).e ≠ 0) : seqL rd nx s = none := by unfold seqL seqF; rw [if_pos h, if_neg h1]
theorem seqL_go (hless : ∀ s, (nx s).e = 0 → (nx s).l.length < s.l.length) {s : St} (h : 0 < leftV s) (h1 : (nx s).e = 0) : seqL rd nx s = (seqL rd nx (nx s)).map (rd s :: ·) := by
  have := hless s h1
  have e : seqL rd nx s = (seqF rd nx s.l.length (nx s)).map (rd s :: ·) := by
    have e1 : seqF rd nx (s.l.length + 1) s = if 0 < leftV s then (if (nx s).e = 0 then (seqF rd nx s.l.length (nx s)).map (rd s :: ·) else none) else some [] := rfl
    show seqF rd nx (s.l.length + 1) s = _
    rw [e1, if_pos h, if_pos h1]
  rw [e, seqF_fuel hless s.l.length ((nx s).l.length + 1) (nx s) (by omega) (by omega)]
  rfl
end
def capsS (s : St) : Option (List (Int × List UInt8)) := seqL (fun s => (cpT s, cpV s)) cpS3 s
theorem capsS_go {s : St} (h : 0 < leftV s) (h1 : (cpS3 s).e = 0) : capsS s = (capsS (cpS3 s)).map ((cpT s, cpV s) :: ·) := seqL_go (fun _ h => (cp_less h).1) h h1
theorem left_ok {s : St} (h : 0 < leftV s) : s.e = 0 := by
  by_cases h0 : s.e = 0
  · exact h0
  · unfold leftV at h; rw [if_neg h0] at h; omega
/-- how far a source is from its end, by its cells. -/
def srcFar (w : World) (g : Nat) : Nat := match w.cell? ⟨g, 3, none⟩ with
  | some (.int _ e) => if e = 0 then srcLen w g + 1 else 0
  | _ => 0
theorem Src.far {w : World} {g : Nat} {s : St} (h : Src w g s) : srcFar w g = if s.e = 0 then s.l.length + 1 else 0 := by
  have hl := h.srcLen
  obtain ⟨A, n, c, h1, h2, h3, h4, h5⟩ := h
  unfold srcFar
  rw [h3.cellv 3 (v := .int .i64 s.e) rfl, hl]
/-- what 'caps' gives: v, ok. -/
def CapP (T : TypeId) (w w' : World) (e : Ending) : Option (List (Int × List UInt8)) → Prop
  | none => ∃ A n c, e = .returned (.tuple #[.slice A n c, .bool false])
  | some ds => ∃ v rs, e = .returned (.tuple #[v, .bool true]) ∧ Rows capK w' w.heap.size w.heap.size T v rs ∧ rs.map capKey = ds
set_option maxRecDepth 100000 in
set_option maxHeartbeats 8000000 in
theorem caps_any (w : World) (g : Nat) (s0 : St) (h : Src w g s0) (h0 : s0.e = 0) (hlim : s0.l.length ≤ 10000000) :
    Calls Try.prog 128 #[.pointer (some ⟨g, 0, none⟩)] w fun e w' => w.grownBy w' (some g) ∧ CapP 60 w w' e (capsS s0) := by
  have hg0 := h.lt
  have hrow := Rows.nil (R := capK) w w.heap.size w.heap.size 60
  have hG := grown_refl w (some g)
  go_enter Try.func128, Try.ntmps128
  go_wp2_with fail
  go_loopw [4, 5] (fun v _ wr => ∃ s rs, Src wr g s ∧ s.l.length ≤ 10000000 ∧ rs.length ≤ 10000000 ∧ (s.e = 0 → s.l.length + rs.length ≤ 10000000) ∧ Rows capK wr w.heap.size w.heap.size 60 v rs ∧ w.grownBy wr (some g) ∧ ((s.e = 0 ∧ capsS s0 = (capsS s).map (rs.map capKey ++ ·)) ∨ (s.e ≠ 0 ∧ capsS s0 = none))) (fun _ _ wr => srcFar wr g)
  case atStart => exact ⟨s0, [], h, hlim, by simp, fun _ => by simpa using hlim, hrow, hG, .inl ⟨h0, by cases capsS s0 <;> simp⟩⟩
  case round =>
  clear h hrow hG
  obtain ⟨s, rs, hsrc, hsl, hrl, hlr, hrow, hG, hsp⟩ := hrel
  have hlt := hsrc.lt
  have hfar := Lib.hid hsrc.far
  have hsz := hG.size
  replace hsp := Lib.hid hsp
  replace hlr := Lib.hid hlr
  go_wp2_with fail
  refine (left_any wr g s hsrc).mono ?_
  rintro e w2 ⟨rfl, rfl⟩
  by_cases hl : 0 < leftV s
  rotate_left
  · have hl2 : leftV s ≤ 0 := by omega
    go_wp2_with fail
    refine (err_any wr g s hsrc).mono ?_
    rintro e w2 ⟨rfl, rfl⟩
    obtain ⟨A0, q0, ev, _, _, _⟩ := hrow.seen (Nat.le_refl _)
    rcases hsp.out with ⟨he, hs⟩ | ⟨he, hs⟩
    · have hb : (s.e == 0) = true := by simpa using he
      have hend : capsS s = some [] := seqL_end (by omega)
      rw [hend] at hs
      replace hs := Lib.hid hs
      replace he := Lib.hid he
      replace hend := Lib.hid hend
      replace ev := Lib.hid ev
      go_wp2_with fail
      go_ret2
      refine ⟨hG, ?_⟩
      rw [hs.out]
      simp only [Option.map_some, List.append_nil]
      exact ⟨_, rs, rfl, hrow, rfl⟩
    · have hb : (s.e == 0) = false := by simpa using he
      replace hs := Lib.hid hs
      replace he := Lib.hid he
      subst ev
      go_wp2_with fail
      go_ret2
      refine ⟨hG, ?_⟩
      rw [hs.out]
      exact ⟨_, _, _, rfl⟩
  have hse := left_ok hl
  have hsp0 : capsS s0 = (capsS s).map (rs.map capKey ++ ·) := by
    rcases hsp.out with ⟨_, h2⟩ | ⟨h1, _⟩
    · exact h2
    · exact absurd hse h1
  have hlr0 := hlr.out hse
  have hfar0 : srcFar wr g = s.l.length + 1 := by rw [hfar.out, if_pos hse]
  replace hsp0 := Lib.hid hsp0
  replace hfar0 := Lib.hid hfar0
  clear hsp hfar hlr
  go_wp2_with fail
  refine (u8_any wr g s hsrc).mono ?_
  rintro e w3 ⟨rfl, hsrc1, hg3⟩
  have eT : numV s 1 = cpT s := rfl
  have eS1 : (tk s 1).1 = cpS1 s := rfl
  rw [eT]
  rw [eS1] at hsrc1
  have hgk : ∀ k, some g = some k → k < w.heap.size := fun k e => by cases e; exact hg0
  replace hrow := hrow.kept hg3 hgk (Nat.le_refl _)
  replace hG := grown_trans hG hg3
  have hlt3 := hsrc1.lt
  have hz3 := hG.size
  have hown3 := hrow.own
  have hbx := (Below.refl w3.heap.size w3).alloc (Nat.le_refl _) (.cells #[.int .i64 (cpT s), .slice none 0 0] 60)
  have hq := Blk.new w3 60 #[.int .i64 (cpT s), .slice none 0 0]
  have hsrc1b := hsrc1.below hbx hlt3
  have hX := grown_alloc (grown_refl w3 (some g)) (.cells #[.int .i64 (cpT s), .slice none 0 0] 60)
  clear hg3 hsrc hsrc1 eS1 eT hbx
  go_wp2_with fail
  generalize w3.alloc (.cells #[.int .i64 (cpT s), .slice none 0 0] 60) = x3 at *
  refine (u8_any x3 g (cpS1 s) hsrc1b).mono ?_
  rintro e w4 ⟨rfl, hsrc2, hg4⟩
  have eN : numV (cpS1 s) 1 = cpN s := rfl
  have eS2 : (tk (cpS1 s) 1).1 = cpS2 s := rfl
  rw [eN]
  rw [eS2] at hsrc2
  replace hq := hq.grown hg4 (by simp; omega)
  replace hX := grown_trans hX hg4
  clear hg4 eN eS2 hsrc1b
  go_wp2_with fail
  refine (bytes_any w4 g (cpS2 s) hsrc2 (cpN s)).mono ?_
  rintro e w6 ⟨v6, rfl, own6, hsrc4, hg6⟩
  have eV : (tk (cpS2 s) (cpN s)).2 = cpV s := rfl
  have eS : (tk (cpS2 s) (cpN s)).1 = cpS3 s := rfl
  rw [eV] at own6
  rw [eS] at hsrc4
  obtain ⟨A6, c6, rfl, hc6, hcm6, by6, hA6⟩ := own6.any2
  have hz4 := hX.size
  have lt4 := hq.lt
  replace hq := hq.grown hg6 (by simp; omega)
  replace hX := grown_trans hX hg6
  clear hg6 eV eS own6 hsrc2
  have q1 : w6.cell? ⟨w3.heap.size, 1, none⟩ = some (.slice none 0 0) := hq.cellv 1 rfl
  have fz1 := hq.frozen 1
  have lt6 := hq.lt
  have hby := Byt.bytS (lo := w4.heap.size) by6 (fun _ => hA6)
  obtain ⟨hq7, hg7⟩ := blk_store hq 1 (.slice A6 (cpV s).length c6)
  have hX7 := grown_setCell hX (p := ⟨w3.heap.size, 1, none⟩) (.inr (Nat.le_refl _)) (.slice A6 (cpV s).length c6)
  replace hby := hby.keep (w' := w6.setCell ⟨w3.heap.size, 1, none⟩ (.slice A6 (cpV s).length c6)) fun p hp => World.cell?_setCell_other _ _ _ _ (by intro e; have := hp.1; rw [← e] at this; simp at this; omega)
  have hsrc7 := hsrc4.grown hg7 hlt3
  have hz7 := hg7.size
  replace hq7 : Blk (w6.setCell ⟨w3.heap.size, 1, none⟩ (.slice A6 (cpV s).length c6)) w3.heap.size 60 #[.int .i64 (cpT s), .slice A6 (cpV s).length c6] := hq7
  generalize hw7 : w6.setCell ⟨w3.heap.size, 1, none⟩ (.slice A6 (cpV s).length c6) = w7 at *
  clear hq hX hsrc4 hg7 by6
  replace hrow := hrow.kept hX7 hgk (Nat.le_refl _)
  replace hG := grown_trans hG hX7
  have ltq := hq7.lt
  have q0 : w7.cell? ⟨w3.heap.size, 0, none⟩ = some (.int .i64 (cpT s)) := hq7.cellv 0 rfl
  have q1' : w7.cell? ⟨w3.heap.size, 1, none⟩ = some (.slice A6 (cpV s).length c6) := hq7.cellv 1 rfl
  obtain ⟨r, hrd⟩ : ∃ r : CapV, r = ⟨cpT s, A6, (cpV s).length, c6, cpV s⟩ := ⟨_, rfl⟩
  have hok : capK.ok w7 (fun b => w4.heap.size ≤ b ∧ b < w7.heap.size) r := by rw [hrd]; exact ⟨hc6, hcm6, hby.more fun b hb => ⟨hb.1, by omega⟩⟩
  have hcr : capK.cel r = [.int .i64 (cpT s), .slice A6 (cpV s).length c6] := by rw [hrd]; rfl
  have hone := seen_one w7 60 r #[.int .i64 (cpT s), .slice A6 (cpV s).length c6] (by rw [hcr]) hok (S' := fun b => b < w7.heap.size + 1) (fun b hb => hb.2) (Nat.lt_succ_self _) (fun b hb => by omega)
  have hby8 := (Below.refl w7.heap.size w7).alloc (Nat.le_refl _) (.cells #[.int .i64 (cpT s), .slice A6 (cpV s).length c6] 60)
  have hrow8 := hrow.alloc (.cells #[.int .i64 (cpT s), .slice A6 (cpV s).length c6] 60)
  have hsrc8 := hsrc7.alloc (.cells #[.int .i64 (cpT s), .slice A6 (cpV s).length c6] 60)
  have hG8 := grown_alloc hG (.cells #[.int .i64 (cpT s), .slice A6 (cpV s).length c6] 60)
  have hz8 := hby8.size
  have hzG := hG.size
  have hok8 : ∀ e ∈ [r], capK.ok (w7.alloc (.cells #[.int .i64 (cpT s), .slice A6 (cpV s).length c6] 60)) (fun b => w.heap.size ≤ b ∧ b < (w7.alloc (.cells #[.int .i64 (cpT s), .slice A6 (cpV s).length c6] 60)).heap.size ∧ u4.ownBlock ≠ some b) e := fun e he => by
    obtain rfl : e = r := by simpa using he
    exact capK.more (capK.keep hok fun p hp => hby8.cell hp.2) fun b hb => ⟨by omega, by omega, fun e2 => by have := (hown3 b e2).2; omega⟩
  go_wp2_with (at_builtin; refine wpList_rows cap_ok rfl (.tmp 17) (.tmp 19) rfl hrow8 rfl rfl hone hok8 (by unfold maxLen; omega) (by omega) (by omega) ?_; intro v9 w9 hrow9 hg9)
  have hb9 := hrow8.below_app hg9 (by omega)
  have hsrc9 := hsrc8.below hb9 hg0
  have hG9 := grown_below hG8 hb9
  have hle := cp_le s
  have hsl1 : 1 ≤ s.l.length := by unfold leftV at hl; rw [if_pos hse] at hl; omega
  refine ⟨⟨cpS3 s, rs ++ [r], hsrc9, by omega, by simp; omega, fun h => ?_, hrow9, hG9, ?_⟩, ?_⟩
  · have := (cp_less h).1
    simp; omega
  · by_cases hE : (cpS3 s).e = 0
    · refine .inl ⟨hE, ?_⟩
      have hd : capKey r = (cpT s, cpV s) := by rw [hrd]; rfl
      rw [hsp0.out, capsS_go hl hE]
      cases capsS (cpS3 s) <;> simp [hd]
    · refine .inr ⟨hE, ?_⟩
      have hno : capsS s = none := seqL_no hl hE
      rw [hsp0.out, hno]
      rfl
  · rw [hsrc9.far, hfar0.out]
    split
    · rename_i h
      have := (cp_less h).1
      omega
    · omega
end Go.Proofs.Ytlpplclhjkbjbaa
