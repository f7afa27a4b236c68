/- attr: Split. -/
import Derived.Test.YtfnclmacodchfaaAtC
import Derived.Test.YtfnclmacodchfaaWird
namespace Go.Proofs.Ytfnclmacodchfaa
set_option linter.unusedVariables false
open Go.RowKit

theorem results_tc {P : Program} {fn : Func} {a u : Tmp} {ty : TypeId} {w : World} {ad : Addr} {v : Value} (h : fn.results = #[.tmp u, .cell a ty]) (tmps : Array Value) (ha : tmps.getD a undef = .pointer (some ad)) (hl : (loadVar ty ad).run P w = .ok v w) :
    (results fn tmps).run P w = .ok (.tuple #[tmps.getD u undef, v]) w := by
  have ha2 := ha
  simp only [Array.getD_eq_getD_getElem?] at ha2
  simp [results, h, ha2, asAddr, hl]
/-- one attribute, read: its flags, its type, its value; and what is left. -/
def rdF (s : St) : Int := numV s 1
def rdS1 (s : St) : St := (tk s 1).1
def rdT (s : St) : Int := numV (rdS1 s) 1
def rdS2 (s : St) : St := (tk (rdS1 s) 1).1
def rdK (s : St) : Nat := if extB (rdF s) then 2 else 1
def rdZ (s : St) : Int := numV (rdS2 s) (rdK s)
def rdS3 (s : St) : St := (tk (rdS2 s) (rdK s)).1
def rdV (s : St) : List UInt8 := (tk (rdS3 s) (rdZ s)).2
def rdS4 (s : St) : St := (tk (rdS3 s) (rdZ s)).1
theorem tk_e (s : St) (m : Int) (h : (tk s m).1.e = 0) : s.e = 0 := by
  unfold tk at h
  split at h
  · exact h
  · rename_i h1; simpa using h1
theorem tk_le (s : St) (m : Int) : (tk s m).1.l.length ≤ s.l.length := by
  unfold tk
  split
  · exact Nat.le_refl _
  · split
    · exact Nat.le_refl _
    · split
      · exact Nat.le_refl _
      · simp
theorem tk_lt (s : St) (m : Nat) (h : (tk s m).1.e = 0) : (tk s m).1.l.length + m = s.l.length := by
  have he := tk_e s m h
  unfold tk at h ⊢
  rw [if_neg (by simpa using he)] at h ⊢
  rw [if_neg (by omega)] at h ⊢
  split at h
  · simp at h
  · rename_i h2
    rw [if_neg h2]
    simp; omega
theorem rd_less {s : St} (h : (rdS4 s).e = 0) : (rdS4 s).l.length < s.l.length ∧ s.e = 0 := by
  have h3 := tk_e _ _ h
  have h2 := tk_e _ _ h3
  have h1 := tk_e _ _ h2
  have h0 := tk_e _ _ h1
  have l1 := tk_lt s 1 h1
  have l4 := tk_le (rdS3 s) (rdZ s)
  have l3 := tk_le (rdS2 s) (rdK s)
  have l2 := tk_le (rdS1 s) 1
  refine ⟨?_, h0⟩
  show ((tk (rdS3 s) (rdZ s)).1).l.length < _
  have e3 : (rdS3 s).l.length ≤ (rdS2 s).l.length := l3
  have e2 : (rdS2 s).l.length ≤ (rdS1 s).l.length := l2
  have e1 : (rdS1 s).l.length + 1 = s.l.length := l1
  omega
abbrev RawD := Int × Int × List UInt8
def splitF : Nat → St → Option (List RawD)
  | 0, _ => some []
  | n + 1, s => if 0 < leftV s then (if (rdS4 s).e = 0 then (splitF n (rdS4 s)).map ((rdF s, rdT s, rdV s) :: ·) else none) else some []
theorem splitF_fuel : ∀ (n m : Nat) (s : St), s.l.length < n → s.l.length < m → splitF n s = splitF m s
  | 0, _, _, h, _ => absurd h (by omega)
  | _ + 1, 0, _, _, h => absurd h (by omega)
  | n + 1, m + 1, s, h, h' => by
    unfold splitF
    by_cases h0 : 0 < leftV s
    · rw [if_pos h0, if_pos h0]
      by_cases h1 : (rdS4 s).e = 0
      · rw [if_pos h1, if_pos h1]
        have := (rd_less h1).1
        rw [splitF_fuel n m (rdS4 s) (by omega) (by omega)]
      · rw [if_neg h1, if_neg h1]
    · rw [if_neg h0, if_neg h0]
def splitL (s : St) : Option (List RawD) := splitF (s.l.length + 1) s
theorem splitL_end {s : St} (h : ¬ 0 < leftV s) : splitL s = some [] := by unfold splitL splitF; rw [if_neg h]
theorem splitL_no {s : St} (h : 0 < leftV s) (h1 : (rdS4 s).e ≠ 0) : splitL s = none := by unfold splitL splitF; rw [if_pos h, if_neg h1]
theorem splitL_go {s : St} (h : 0 < leftV s) (h1 : (rdS4 s).e = 0) : splitL s = (splitL (rdS4 s)).map ((rdF s, rdT s, rdV s) :: ·) := by
  have := (rd_less h1).1
  have e : splitL s = (splitF s.l.length (rdS4 s)).map ((rdF s, rdT s, rdV s) :: ·) := by
    have e1 : splitF (s.l.length + 1) s = if 0 < leftV s then (if (rdS4 s).e = 0 then (splitF s.l.length (rdS4 s)).map ((rdF s, rdT s, rdV s) :: ·) else none) else some [] := rfl
    show splitF (s.l.length + 1) s = _
    rw [e1, if_pos h, if_pos h1]
  rw [e, splitF_fuel s.l.length ((rdS4 s).l.length + 1) (rdS4 s) (by omega) (by omega)]
  rfl
def dat (r : RawV) : RawD := (r.f, r.t, r.v)
/-- how many bytes a source has left, by its cells. -/
def srcLen (w : World) (g : Nat) : Nat := match w.cell? ⟨g, 1, none⟩ with
  | some (.slice _ n _) => n
  | _ => 0
theorem Src.srcLen {w : World} {g : Nat} {s : St} (h : Src w g s) : srcLen w g = s.l.length := by
  obtain ⟨A, n, c, h1, h2, h3, h4, h5⟩ := h
  unfold Go.Proofs.Ytfnclmacodchfaa.srcLen
  rw [h3.cellv 1 (v := .slice A n c) rfl]
  exact h4.1.symm
def zF : Array Value := #[.int .i64 0, .int .i64 0, .slice none 0 0]
def badF : Array Value := #[.int .i64 3, .int .i64 1, .slice none 0 0]
def SplP (T : TypeId) (w w' : World) (e : Ending) : Option (List RawD) → Prop
  | none => e = .returned (.tuple #[.slice none 0 0, .agg badF])
  | some ds => ∃ v rs, e = .returned (.tuple #[v, .agg zF]) ∧ Rows rawK w' w.heap.size w.heap.size T v rs ∧ rs.map dat = ds
set_option maxRecDepth 100000 in
set_option maxHeartbeats 8000000 in
theorem split_any (w : World) (A : Option Addr) (n c : Nat) (l : List UInt8) (h : Byt w w.heap.size A n l) (hn : n ≤ 10000000) :
    Calls Try.prog 77 #[.slice A n c] w fun e w' => Below w.heap.size w w' ∧ SplP 90 w w' e (splitL ⟨l, 0, 0⟩) := by
  have hi : (Try.prog.info? 44).map (·.size) = some 3 := by kernel_rfl
  have hr := Blk.new w 44 zF
  have hB := (Below.refl w.heap.size w).alloc (Nat.le_refl _) (.cells zF 44)
  have hI := (h.below hB).more hB.size
  unfold zF at hr hB hI
  go_enter Try.func77, Try.ntmps77
  go_wp2_with fail
  refine (read_any _ A n c l _ hI (Nat.le_refl _) (by omega)).mono ?_
  rintro e w1 ⟨g, rfl, hg, hsrc, hb1⟩
  replace hr := hr.below hb1 hr.lt
  replace hB := hB.trans (hb1.mono hB.size)
  have hg1 : w.heap.size < g := by simp at hg; omega
  have hrow := Rows.nil (R := rawK) w1 (g + 1) (g + 1) 90
  generalize hs0 : (⟨l, 0, 0⟩ : St) = s0 at hsrc
  have hs0e : s0.e = 0 := by rw [← hs0]
  have hs0l : s0.l.length ≤ 10000000 := by rw [← hs0, h.1]; exact hn
  replace hs0 := Lib.hid hs0
  clear hb1 hI hg h
  go_wp2_with fail
  go_loopw [5, 6, 7] (fun v _ _ wr => ∃ s rs, Src wr g s ∧ s.e = 0 ∧ s.l.length + rs.length ≤ 10000000 ∧ Rows rawK wr (g + 1) (g + 1) 90 v rs ∧ Blk wr w.heap.size 44 #[.int .i64 0, .int .i64 0, .slice none 0 0] ∧ Below w.heap.size w wr ∧ splitL s0 = (splitL s).map (rs.map dat ++ ·)) (fun _ _ _ wr => srcLen wr g)
  case atStart => exact ⟨s0, [], hsrc, hs0e, by simpa using hs0l, hrow, hr, hB, by cases splitL s0 <;> simp⟩
  case round =>
  clear hsrc hrow hr hB
  obtain ⟨s, rs, hsrc, hse, hlim, hrow, hr, hB, hsp⟩ := hrel
  have hln := hsrc.srcLen
  have hlt := hsrc.lt
  go_wp2_with fail
  refine (left_any wr g s hsrc).mono ?_
  rintro e w2 ⟨rfl, rfl⟩
  by_cases hl : 0 < leftV s
  rotate_left
  · replace hsp := Lib.hid hsp
    replace hln := Lib.hid hln
    have hl2 : leftV s ≤ 0 := by omega
    go_wp2_with (refine wpList_store_blk rfl hr 44 (.tmp 3) (.tmp 40) rfl rfl rfl rfl hi (by simp [Value.oneCell']) ?_; intro w3 hr3 hg3)
    try rw [Exit.noGoto_ret]
    refine bodyPost_ret (results_tc rfl _ rfl (load_blk hr3 Try.underlying44 rfl hi)) rfl ?_
    refine ⟨below_own hB hg3 hB.size (Nat.le_refl _), ?_⟩
    rw [hs0.out, hsp.out, splitL_end (by omega)]
    simp only [Option.map_some, List.append_nil]
    exact ⟨_, rs, rfl, (hrow.kept hg3 (fun k e => by cases e; omega) (Nat.le_refl _)).less (by omega) (by omega), rfl⟩
  replace hsp := Lib.hid hsp
  replace hln := Lib.hid hln
  have hgz : g < g + 1 := Nat.lt_succ_self _
  go_wp2_with fail
  refine (u8_any wr g s hsrc).mono ?_
  rintro e w2 ⟨rfl, hsrc1, hg2⟩
  replace hrow := hrow.kept hg2 (fun k e => by cases e; exact hgz) (Nat.le_refl _)
  replace hr := hr.grown hg2 (by simp; omega)
  replace hB := below_own hB hg2 hB.size (by omega)
  clear hg2
  go_wp2_with fail
  refine (u8_any w2 g (rdS1 s) hsrc1).mono ?_
  rintro e w3 ⟨rfl, hsrc2, hg3⟩
  replace hrow := hrow.kept hg3 (fun k e => by cases e; exact hgz) (Nat.le_refl _)
  replace hr := hr.grown hg3 (by simp; omega)
  replace hB := below_own hB hg3 hB.size (by omega)
  clear hg3
  have eF : numV s 1 = rdF s := rfl
  have eT : numV (rdS1 s) 1 = rdT s := rfl
  rw [eF, eT]
  have hx := ext_bit (rdF s)
  have hbx := (Below.refl w3.heap.size w3).alloc (Nat.le_refl _) (.cells #[.int .i64 (rdF s), .int .i64 (rdT s), .slice none 0 0] 90)
  have hq := Blk.new w3 90 #[.int .i64 (rdF s), .int .i64 (rdT s), .slice none 0 0]
  have hsrc2b := hsrc2.below hbx hsrc2.lt
  have hlt3 := hsrc2.lt
  have hG := grown_alloc (grown_refl w3 (some g)) (.cells #[.int .i64 (rdF s), .int .i64 (rdT s), .slice none 0 0] 90)
  have hz3 := hB.size
  have hown3 := hrow.own
  clear hbx eF eT
  cases hxb : extB (rdF s)
  · rw [hxb] at hx
    have hk : rdK s = 1 := by unfold rdK; rw [hxb]; rfl
    have eZ : rdZ s = numV (rdS2 s) 1 := by unfold rdZ; rw [hk]
    have e3 : rdS3 s = (tk (rdS2 s) 1).1 := by unfold rdS3; rw [hk]; rfl
    go_wp2_with fail
    generalize w3.alloc (.cells #[.int .i64 (rdF s), .int .i64 (rdT s), .slice none 0 0] 90) = w4 at *
    refine (u8_any w4 g (rdS2 s) hsrc2b).mono ?_
    rintro e w5 ⟨rfl, hsrc3, hg5⟩
    rw [← eZ]
    rw [← e3] at hsrc3
    replace hq := hq.grown hg5 (by simp; omega)
    replace hG := grown_trans hG hg5
    clear hg5 eZ e3 hk
    go_wp2_with fail
    refine (bytes_any w5 g (rdS3 s) hsrc3 (rdZ s)).mono ?_
    rintro e w6 ⟨v6, rfl, own6, hsrc4, hg6⟩
    have eV : (tk (rdS3 s) (rdZ s)).2 = rdV s := rfl
    have eS : (tk (rdS3 s) (rdZ s)).1 = rdS4 s := rfl
    rw [eV] at own6
    rw [eS] at hsrc4
    obtain ⟨A6, c6, rfl, hc6, hcm6, by6, hA6⟩ := own6.any2
    have hz5 := hG.size
    have lt5 := hq.lt
    replace hq := hq.grown hg6 (by simp; omega)
    replace hG := grown_trans hG hg6
    clear hg6 eV eS own6
    have q2 : w6.cell? ⟨w3.heap.size, 2, none⟩ = some (.slice none 0 0) := hq.cellv 2 rfl
    have fz2 := hq.frozen 2
    have lt6 := hq.lt
    have hby := Byt.bytS (lo := w5.heap.size) by6 (fun _ => hA6)
    go_wp2_with fail
    obtain ⟨hq7, hg7⟩ := blk_store hq 2 (.slice A6 (rdV s).length c6)
    have hG7 := grown_setCell hG (p := ⟨w3.heap.size, 2, none⟩) (.inr (Nat.le_refl _)) (.slice A6 (rdV s).length c6)
    replace hby := hby.keep (w' := w6.setCell ⟨w3.heap.size, 2, none⟩ (.slice A6 (rdV s).length c6)) fun p hp => World.cell?_setCell_other _ _ _ _ (by intro e; have := hp.1; rw [← e] at this; simp at this; omega)
    have hsrc7 := hsrc4.grown hg7 hlt3
    have hz7 := hg7.size
    replace hq7 : Blk (w6.setCell ⟨w3.heap.size, 2, none⟩ (.slice A6 (rdV s).length c6)) w3.heap.size 90 #[.int .i64 (rdF s), .int .i64 (rdT s), .slice A6 (rdV s).length c6] := hq7
    generalize w6.setCell ⟨w3.heap.size, 2, none⟩ (.slice A6 (rdV s).length c6) = w7 at *
    clear hq hG q2 fz2 hsrc4 hg7 by6
    replace hrow := hrow.kept hG7 (fun k e => by cases e; exact hgz) (Nat.le_refl _)
    replace hr := hr.grown hG7 (by simp; omega)
    replace hB := below_own hB hG7 hB.size (by omega)
    refine (err_any w7 g (rdS4 s) hsrc7).mono ?_
    rintro e w8 ⟨rfl, rfl⟩
    by_cases hE : (rdS4 s).e = 0
    rotate_left
    · have hne : ((rdS4 s).e != 0) = true := by simpa using hE
      have hno := splitL_no hl hE
      replace hE := Lib.hid hE
      replace hno := Lib.hid hno
      go_wp2_with (refine wpList_store_blk rfl hr 44 (.tmp 3) (.tmp 34) rfl rfl rfl rfl hi (by simp [Value.oneCell']) ?_; intro w9 hr9 hg9)
      try rw [Exit.noGoto_ret]
      refine bodyPost_ret (results_tc rfl _ rfl (load_blk hr9 Try.underlying44 rfl hi)) rfl ?_
      refine ⟨below_own hB hg9 hB.size (Nat.le_refl _), ?_⟩
      rw [hs0.out, hsp.out, hno.out]
      rfl
    have hgo := splitL_go hl hE
    obtain ⟨hls, -⟩ := rd_less hE
    rw [hE]
    have hE' := Lib.hid hE
    replace hgo := Lib.hid hgo
    clear hE
    have ltq := hq7.lt
    have q0 : w7.cell? ⟨w3.heap.size, 0, none⟩ = some (.int .i64 (rdF s)) := hq7.cellv 0 rfl
    have q1 : w7.cell? ⟨w3.heap.size, 1, none⟩ = some (.int .i64 (rdT s)) := hq7.cellv 1 rfl
    have q2 : w7.cell? ⟨w3.heap.size, 2, none⟩ = some (.slice A6 (rdV s).length c6) := hq7.cellv 2 rfl
    obtain ⟨r, hrd⟩ : ∃ r : RawV, r = ⟨rdF s, rdT s, A6, (rdV s).length, c6, rdV s⟩ := ⟨_, rfl⟩
    have hok : rawK.ok w7 (fun b => w5.heap.size ≤ b ∧ b < w7.heap.size) r := by rw [hrd]; exact ⟨hc6, hcm6, hby.more fun b hb => ⟨hb.1, by omega⟩⟩
    have hcr : rawK.cel r = [.int .i64 (rdF s), .int .i64 (rdT s), .slice A6 (rdV s).length c6] := by rw [hrd]; rfl
    have hone := seen_one w7 90 r #[.int .i64 (rdF s), .int .i64 (rdT s), .slice A6 (rdV s).length c6] (by rw [hcr]) hok (S' := fun b => b < w7.heap.size + 1) (fun b hb => hb.2) (Nat.lt_succ_self _) (fun b hb => by omega)
    have hby8 := (Below.refl w7.heap.size w7).alloc (Nat.le_refl _) (.cells #[.int .i64 (rdF s), .int .i64 (rdT s), .slice A6 (rdV s).length c6] 90)
    have hrow8 := hrow.alloc (.cells #[.int .i64 (rdF s), .int .i64 (rdT s), .slice A6 (rdV s).length c6] 90)
    have hr8 := hr.alloc (.cells #[.int .i64 (rdF s), .int .i64 (rdT s), .slice A6 (rdV s).length c6] 90)
    have hsrc8 := hsrc7.alloc (.cells #[.int .i64 (rdF s), .int .i64 (rdT s), .slice A6 (rdV s).length c6] 90)
    have hB8 := hB.alloc hB.size (.cells #[.int .i64 (rdF s), .int .i64 (rdT s), .slice A6 (rdV s).length c6] 90)
    have hz8 := hby8.size
    have hok8 : ∀ e ∈ [r], rawK.ok (w7.alloc (.cells #[.int .i64 (rdF s), .int .i64 (rdT s), .slice A6 (rdV s).length c6] 90)) (fun b => g + 1 ≤ b ∧ b < (w7.alloc (.cells #[.int .i64 (rdF s), .int .i64 (rdT s), .slice A6 (rdV s).length c6] 90)).heap.size ∧ u5.ownBlock ≠ some b) e := fun e he => by
      obtain rfl : e = r := by simpa using he
      exact rawK.more (rawK.keep hok fun p hp => hby8.cell hp.2) fun b hb => ⟨by omega, by omega, fun e2 => by have := (hown3 b e2).2; omega⟩
    have hrl : rs.length ≤ 10000000 := by omega
    go_wp2_with (at_builtin; refine wpList_rows raw_ok rfl (.tmp 35) (.tmp 37) rfl hrow8 rfl rfl hone hok8 (by unfold maxLen; omega) (by omega) (by omega) ?_; intro v9 w9 hrow9 hg9)
    have hb9 := hrow8.below_app hg9 (by omega)
    refine ⟨⟨rdS4 s, rs ++ [r], hsrc8.below hb9 hgz, hE'.out, by simp; omega, hrow9, hr8.below hb9 (by omega), hB8.trans (hb9.mono (by omega)), ?_⟩, ?_⟩
    · rw [hsp.out, hgo.out]
      have hd : dat r = (rdF s, rdT s, rdV s) := by rw [hrd]; rfl
      cases splitL (rdS4 s) <;> simp [hd]
    · rw [(hsrc8.below hb9 hgz).srcLen, hln.out]; exact hls
  · rw [hxb] at hx
    have hk : rdK s = 2 := by unfold rdK; rw [hxb]; rfl
    have eZ : rdZ s = numV (rdS2 s) 2 := by unfold rdZ; rw [hk]
    have e3 : rdS3 s = (tk (rdS2 s) 2).1 := by unfold rdS3; rw [hk]; rfl
    go_wp2_with fail
    generalize w3.alloc (.cells #[.int .i64 (rdF s), .int .i64 (rdT s), .slice none 0 0] 90) = w4 at *
    refine (u16_any w4 g (rdS2 s) hsrc2b).mono ?_
    rintro e w5 ⟨rfl, hsrc3, hg5⟩
    rw [← eZ]
    rw [← e3] at hsrc3
    replace hq := hq.grown hg5 (by simp; omega)
    replace hG := grown_trans hG hg5
    clear hg5 eZ e3 hk
    go_wp2_with fail
    refine (bytes_any w5 g (rdS3 s) hsrc3 (rdZ s)).mono ?_
    rintro e w6 ⟨v6, rfl, own6, hsrc4, hg6⟩
    have eV : (tk (rdS3 s) (rdZ s)).2 = rdV s := rfl
    have eS : (tk (rdS3 s) (rdZ s)).1 = rdS4 s := rfl
    rw [eV] at own6
    rw [eS] at hsrc4
    obtain ⟨A6, c6, rfl, hc6, hcm6, by6, hA6⟩ := own6.any2
    have hz5 := hG.size
    have lt5 := hq.lt
    replace hq := hq.grown hg6 (by simp; omega)
    replace hG := grown_trans hG hg6
    clear hg6 eV eS own6
    have q2 : w6.cell? ⟨w3.heap.size, 2, none⟩ = some (.slice none 0 0) := hq.cellv 2 rfl
    have fz2 := hq.frozen 2
    have lt6 := hq.lt
    have hby := Byt.bytS (lo := w5.heap.size) by6 (fun _ => hA6)
    go_wp2_with fail
    obtain ⟨hq7, hg7⟩ := blk_store hq 2 (.slice A6 (rdV s).length c6)
    have hG7 := grown_setCell hG (p := ⟨w3.heap.size, 2, none⟩) (.inr (Nat.le_refl _)) (.slice A6 (rdV s).length c6)
    replace hby := hby.keep (w' := w6.setCell ⟨w3.heap.size, 2, none⟩ (.slice A6 (rdV s).length c6)) fun p hp => World.cell?_setCell_other _ _ _ _ (by intro e; have := hp.1; rw [← e] at this; simp at this; omega)
    have hsrc7 := hsrc4.grown hg7 hlt3
    have hz7 := hg7.size
    replace hq7 : Blk (w6.setCell ⟨w3.heap.size, 2, none⟩ (.slice A6 (rdV s).length c6)) w3.heap.size 90 #[.int .i64 (rdF s), .int .i64 (rdT s), .slice A6 (rdV s).length c6] := hq7
    generalize w6.setCell ⟨w3.heap.size, 2, none⟩ (.slice A6 (rdV s).length c6) = w7 at *
    clear hq hG q2 fz2 hsrc4 hg7 by6
    replace hrow := hrow.kept hG7 (fun k e => by cases e; exact hgz) (Nat.le_refl _)
    replace hr := hr.grown hG7 (by simp; omega)
    replace hB := below_own hB hG7 hB.size (by omega)
    refine (err_any w7 g (rdS4 s) hsrc7).mono ?_
    rintro e w8 ⟨rfl, rfl⟩
    by_cases hE : (rdS4 s).e = 0
    rotate_left
    · have hne : ((rdS4 s).e != 0) = true := by simpa using hE
      have hno := splitL_no hl hE
      replace hE := Lib.hid hE
      replace hno := Lib.hid hno
      go_wp2_with (refine wpList_store_blk rfl hr 44 (.tmp 3) (.tmp 34) rfl rfl rfl rfl hi (by simp [Value.oneCell']) ?_; intro w9 hr9 hg9)
      try rw [Exit.noGoto_ret]
      refine bodyPost_ret (results_tc rfl _ rfl (load_blk hr9 Try.underlying44 rfl hi)) rfl ?_
      refine ⟨below_own hB hg9 hB.size (Nat.le_refl _), ?_⟩
      rw [hs0.out, hsp.out, hno.out]
      rfl
    have hgo := splitL_go hl hE
    obtain ⟨hls, -⟩ := rd_less hE
    rw [hE]
    have hE' := Lib.hid hE
    replace hgo := Lib.hid hgo
    clear hE
    have ltq := hq7.lt
    have q0 : w7.cell? ⟨w3.heap.size, 0, none⟩ = some (.int .i64 (rdF s)) := hq7.cellv 0 rfl
    have q1 : w7.cell? ⟨w3.heap.size, 1, none⟩ = some (.int .i64 (rdT s)) := hq7.cellv 1 rfl
    have q2 : w7.cell? ⟨w3.heap.size, 2, none⟩ = some (.slice A6 (rdV s).length c6) := hq7.cellv 2 rfl
    obtain ⟨r, hrd⟩ : ∃ r : RawV, r = ⟨rdF s, rdT s, A6, (rdV s).length, c6, rdV s⟩ := ⟨_, rfl⟩
    have hok : rawK.ok w7 (fun b => w5.heap.size ≤ b ∧ b < w7.heap.size) r := by rw [hrd]; exact ⟨hc6, hcm6, hby.more fun b hb => ⟨hb.1, by omega⟩⟩
    have hcr : rawK.cel r = [.int .i64 (rdF s), .int .i64 (rdT s), .slice A6 (rdV s).length c6] := by rw [hrd]; rfl
    have hone := seen_one w7 90 r #[.int .i64 (rdF s), .int .i64 (rdT s), .slice A6 (rdV s).length c6] (by rw [hcr]) hok (S' := fun b => b < w7.heap.size + 1) (fun b hb => hb.2) (Nat.lt_succ_self _) (fun b hb => by omega)
    have hby8 := (Below.refl w7.heap.size w7).alloc (Nat.le_refl _) (.cells #[.int .i64 (rdF s), .int .i64 (rdT s), .slice A6 (rdV s).length c6] 90)
    have hrow8 := hrow.alloc (.cells #[.int .i64 (rdF s), .int .i64 (rdT s), .slice A6 (rdV s).length c6] 90)
    have hr8 := hr.alloc (.cells #[.int .i64 (rdF s), .int .i64 (rdT s), .slice A6 (rdV s).length c6] 90)
    have hsrc8 := hsrc7.alloc (.cells #[.int .i64 (rdF s), .int .i64 (rdT s), .slice A6 (rdV s).length c6] 90)
    have hB8 := hB.alloc hB.size (.cells #[.int .i64 (rdF s), .int .i64 (rdT s), .slice A6 (rdV s).length c6] 90)
    have hz8 := hby8.size
    have hok8 : ∀ e ∈ [r], rawK.ok (w7.alloc (.cells #[.int .i64 (rdF s), .int .i64 (rdT s), .slice A6 (rdV s).length c6] 90)) (fun b => g + 1 ≤ b ∧ b < (w7.alloc (.cells #[.int .i64 (rdF s), .int .i64 (rdT s), .slice A6 (rdV s).length c6] 90)).heap.size ∧ u5.ownBlock ≠ some b) e := fun e he => by
      obtain rfl : e = r := by simpa using he
      exact rawK.more (rawK.keep hok fun p hp => hby8.cell hp.2) fun b hb => ⟨by omega, by omega, fun e2 => by have := (hown3 b e2).2; omega⟩
    have hrl : rs.length ≤ 10000000 := by omega
    go_wp2_with (at_builtin; refine wpList_rows raw_ok rfl (.tmp 35) (.tmp 37) rfl hrow8 rfl rfl hone hok8 (by unfold maxLen; omega) (by omega) (by omega) ?_; intro v9 w9 hrow9 hg9)
    have hb9 := hrow8.below_app hg9 (by omega)
    refine ⟨⟨rdS4 s, rs ++ [r], hsrc8.below hb9 hgz, hE'.out, by simp; omega, hrow9, hr8.below hb9 (by omega), hB8.trans (hb9.mono (by omega)), ?_⟩, ?_⟩
    · rw [hsp.out, hgo.out]
      have hd : dat r = (rdF s, rdT s, rdV s) := by rw [hrd]; rfl
      cases splitL (rdS4 s) <;> simp [hd]
    · rw [(hsrc8.below hb9 hgz).srcLen, hln.out]; exact hls
end Go.Proofs.Ytfnclmacodchfaa
