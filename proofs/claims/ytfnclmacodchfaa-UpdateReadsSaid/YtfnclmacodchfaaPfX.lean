/- update: prefix.Parse. -/
import Derived.Test.YtfnclmacodchfaaPfW
namespace Go.Proofs.Ytfnclmacodchfaa
set_option linter.unusedVariables false
open Go Go.RowKit

theorem nxP_yes {s : St} (h : (nxP s).e = 0) : nxP s = pdS2 s := by
  unfold nxP at h ⊢
  by_cases h1 : pdN s ≤ 32
  · rw [if_pos h1]
  · rw [if_neg h1] at h; simp at h
/-- what 'Parse' of prefixes gives: l, ok. -/
def PpP (T : TypeId) (w w' : World) (e : Ending) : Option (List (Int × Int)) → Prop
  | none => e = .returned (.tuple #[.slice none 0 0, .bool false])
  | some ds => ∃ v, e = .returned (.tuple #[v, .bool true]) ∧ Rows pfK w' w.heap.size w.heap.size T v ds
set_option maxRecDepth 100000 in
set_option maxHeartbeats 8000000 in
theorem prefixParse_any (w : World) (A : Option Addr) (n c : Nat) (l : List UInt8) (h : Byt w w.heap.size A n l) (hn : n ≤ 10000000) : Calls Try.prog 42 #[.slice A n c] w fun e w' => PpP 61 w w' e (parseP l) ∧ Below w.heap.size w w' := by
  have hl := Lib.hid h.1
  go_enter Try.func42, Try.ntmps42
  go_upto_region 3 with (go_at_call 36; refine (read_any w A n c l w.heap.size h (Nat.le_refl _) (by omega)).mono ?_; rintro e w1 ⟨g, rfl, hg, hsrc, hB⟩)
  have hlt := hsrc.lt
  have hrow := Rows.nil (R := pfK) w1 (g + 1) (g + 1) 61
  have h0 : parseP l = pfsS ⟨l, 0, 0⟩ := rfl
  have h00 := Lib.hid h0
  clear h0
  go_loopw [5, 6, 7] (fun v _ _ wr => ∃ s rs, Src wr g s ∧ s.e = 0 ∧ s.l.length + rs.length ≤ n ∧ Rows pfK wr (g + 1) (g + 1) 61 v rs ∧ Below w.heap.size w wr ∧ parseP l = (pfsS s).map (rs ++ ·)) (fun _ _ _ wr => srcLen wr g)
  case atStart => exact ⟨⟨l, 0, 0⟩, [], hsrc, rfl, by simp [hl.out], hrow, hB, by rw [h00.out]; cases pfsS ⟨l, 0, 0⟩ <;> simp⟩
  case round =>
  clear hsrc hrow hB h00
  obtain ⟨s, rs, hsrc, hse, hlr, hrow, hB, hsp⟩ := hrel
  have hlt := hsrc.lt
  have hlen := Lib.hid hsrc.srcLen
  replace hsp := Lib.hid hsp
  have hgz := hB.size
  obtain ⟨A0, q0, ev, _, _, _⟩ := hrow.seen (Nat.le_refl _)
  subst ev
  by_cases hlf : 0 < leftV s
  rotate_left
  · have hend : pfsS s = some [] := seqL_end hlf
    have hlf2 : leftV s ≤ 0 := by omega
    replace hend := Lib.hid hend
    replace hse := Lib.hid hse
    go_wp2_with (go_at_call 75; refine (left_any wr g s hsrc).mono ?_; rintro e w2 ⟨rfl, rfl⟩)
    go_ret2
    refine ⟨?_, hB⟩
    rw [hsp.out, hend.out]
    exact ⟨_, rfl, by simpa using hrow.less (by omega) (by omega)⟩
  replace hse := Lib.hid hse
  go_wp2_with fail
  refine (left_any wr g s hsrc).mono ?_
  rintro e w2 ⟨rfl, rfl⟩
  go_wp2_with fail
  refine (pfRead_any wr g s hsrc).mono ?_
  rintro e w2 ⟨hg2, hpd⟩
  have hrow2 := hrow.kept hg2 (fun k e => by cases e; exact Nat.lt_succ_self _) (Nat.le_refl _)
  have hB2 : Below w.heap.size w w2 := below_own hB hg2 hgz hg
  unfold PdP at hpd
  by_cases hE : (nxP s).e = 0
  rotate_left
  · rw [if_neg hE] at hpd
    subst hpd
    have hno : pfsS s = none := seqL_no hlf hE
    replace hE := Lib.hid hE
    replace hno := Lib.hid hno
    have hb3 := (Below.refl w2.heap.size w2).alloc (Nat.le_refl _) (.cells #[.int .u32 0, .int .i64 0] 61)
    go_wp2_with fail
    go_ret2
    refine ⟨?_, hB2.trans (hb3.mono hB2.size)⟩
    rw [hsp.out, hno.out]
    rfl
  rw [if_pos hE] at hpd
  obtain ⟨rfl, hs2⟩ := hpd
  have hgo := pfsS_go hlf hE
  rw [nxP_yes hE] at hgo
  have hless := nxP_less s hE
  rw [nxP_yes hE] at hless
  have he2 : (pdS2 s).e = 0 := by rw [← nxP_yes hE]; exact hE
  replace hE := Lib.hid hE
  replace hgo := Lib.hid hgo
  replace he2 := Lib.hid he2
  clear hg2 hsrc hrow
  have hbx := (Below.refl w2.heap.size w2).alloc (Nat.le_refl _) (.cells #[.int .u32 (pdP s).1, .int .i64 (pdP s).2] 61)
  have hq := Blk.new w2 61 #[.int .u32 (pdP s).1, .int .i64 (pdP s).2]
  have hrow3 := hrow2.alloc (.cells #[.int .u32 (pdP s).1, .int .i64 (pdP s).2] 61)
  have hs3 := hs2.alloc (.cells #[.int .u32 (pdP s).1, .int .i64 (pdP s).2] 61)
  have hB3 := hB2.trans (hbx.mono hB2.size)
  have lt2 := hs2.lt
  have hok : ∀ (u : World) (S : Nat → Prop), pfK.ok u S (pdP s) := fun u S => pdP_bd s
  go_upto_region 7 with (fail)
  generalize w2.alloc (.cells #[.int .u32 (pdP s).1, .int .i64 (pdP s).2] 61) = w3 at *
  have ltq := hq.lt
  have z0 : w3.cell? ⟨w2.heap.size, 0, none⟩ = some (.int .u32 (pdP s).1) := hq.cellv 0 rfl
  have z1 : w3.cell? ⟨w2.heap.size, 1, none⟩ = some (.int .i64 (pdP s).2) := hq.cellv 1 rfl
  have hone := seen_one w3 61 (pdP s) #[.int .u32 (pdP s).1, .int .i64 (pdP s).2] rfl (hok w3 (fun b => b < w3.heap.size)) (S' := fun b => b < w3.heap.size + 1) (fun b hb => hb) (Nat.lt_succ_self _) (fun b hb => by omega)
  have hby := (Below.refl w3.heap.size w3).alloc (Nat.le_refl _) (.cells #[.int .u32 (pdP s).1, .int .i64 (pdP s).2] 61)
  have hrow4 := hrow3.alloc (.cells #[.int .u32 (pdP s).1, .int .i64 (pdP s).2] 61)
  have hs4 := hs3.alloc (.cells #[.int .u32 (pdP s).1, .int .i64 (pdP s).2] 61)
  have hzy := hby.size
  have lt3 := hs3.lt
  have lt4 := hs4.lt
  replace hlr := Lib.hid hlr
  go_wp2_with (at_builtin; refine wpList_rows pf_ok rfl (.tmp 20) (.tmp 22) rfl hrow4 rfl rfl hone (fun e he => by obtain rfl : e = pdP s := (by simpa using he); exact hok _ _) (by have := hlr.out; unfold maxLen; omega) (by have := hlr.out; omega) (by omega) ?_; intro v9 w9 hrow9 hg9)
  have hb9 := hrow4.below_app hg9 (by omega)
  have hs9 := hs4.below hb9 (Nat.lt_succ_self _)
  have hz3 := hB3.size
  have hB9 : Below w.heap.size w w9 := hB3.trans ((hby.mono hz3).trans (hb9.mono (by omega)))
  refine ⟨⟨pdS2 s, rs ++ [pdP s], hs9, he2.out, by have := hlr.out; simp; omega, hrow9, hB9, ?_⟩, ?_⟩
  · rw [hsp.out, hgo.out]
    cases pfsS (pdS2 s) <;> simp
  · rw [hlen.out, hs9.srcLen]
    exact hless
end Go.Proofs.Ytfnclmacodchfaa
