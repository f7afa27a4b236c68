/- update: the document's Read and Parse of prefixes. -/
import Derived.Test.YtfnclmacodchfaaPfX
import Derived.Test.YtfnclmacodchfaaWirr
namespace Go.Proofs.Ytfnclmacodchfaa
set_option linter.unusedVariables false
open Go Go.RowKit

/-- what the document reads: a prefix, and whether. -/
def PdR (w w' : World) (lo g : Nat) (e : Ending) (s : St) : Prop :=
  if (nxP s).e = 0 then e = .returned (.tuple #[.agg #[.int .u32 (pdP s).1, .int .i64 (pdP s).2], .bool true]) ∧ Ref w' lo g (pdS2 s) else e = .returned (.tuple #[.agg #[.int .u32 0, .int .i64 0], .bool false])
theorem Ref.err2 {w : World} {lo g : Nat} {s : St} (h : Ref w lo g s) : w.cell? ⟨g, 2, none⟩ = some (.int .i64 s.e) := by
  obtain ⟨A, n, c, N, L, _, _, hb, _⟩ := h
  exact hb.cellv 2 rfl
theorem or_at (q y j : Nat) (hy : y ≤ 255) (hx : 2 ^ (j + 8) * q + y * 2 ^ j < 4294967296) : bits .or .u32 ((2 ^ (j + 8) * q : Nat) : Int) ((y * 2 ^ j : Nat) : Int) = ((2 ^ (j + 8) * q + y * 2 ^ j : Nat) : Int) := by
  have hlt : y * 2 ^ j < 2 ^ (j + 8) := by
    rw [Nat.pow_add, Nat.mul_comm]
    exact Nat.mul_lt_mul_of_pos_left (by omega) (Nat.pow_pos (by decide))
  have h5 := Nat.two_pow_add_eq_or_of_lt (i := j + 8) (b := y * 2 ^ j) hlt q
  show IntKind.u32.wrap ((BitVec.ofInt 32 ((2 ^ (j + 8) * q : Nat) : Int) ||| BitVec.ofInt 32 ((y * 2 ^ j : Nat) : Int)).toNat : Int) = _
  generalize hA : 2 ^ (j + 8) * q = A at *
  generalize hB : y * 2 ^ j = B at *
  have t1 : (BitVec.ofInt 32 (A : Int)).toNat = A := by rw [BitVec.toNat_ofInt]; omega
  have t2 : (BitVec.ofInt 32 (B : Int)).toNat = B := by rw [BitVec.toNat_ofInt]; omega
  rw [BitVec.toNat_or, t1, t2, ← h5, IntKind.wrap_u32]
  omega
theorem byAt_tk (v : List UInt8) (k j : Nat) : byAt (v.take k) j = if j < k then byAt v j else 0 := by
  unfold byAt
  rw [List.getElem?_take]
  split <;> simp
theorem or_byte (v : List UInt8) (k : Nat) (hk : k < 4) : bits .or .u32 (getN (v.take k) 4) (byAt v k % 4294967296 * 2 ^ (24 - 8 * k) % 4294967296) = getN (v.take (k + 1)) 4 := by
  obtain ⟨a0, e0⟩ := Int.eq_ofNat_of_zero_le (byAt_lo v 0)
  obtain ⟨a1, e1⟩ := Int.eq_ofNat_of_zero_le (byAt_lo v 1)
  obtain ⟨a2, e2⟩ := Int.eq_ofNat_of_zero_le (byAt_lo v 2)
  obtain ⟨a3, e3⟩ := Int.eq_ofNat_of_zero_le (byAt_lo v 3)
  have b0 := byAt_hi v 0
  have b1 := byAt_hi v 1
  have b2 := byAt_hi v 2
  have b3 := byAt_hi v 3
  rw [e0] at b0
  rw [e1] at b1
  rw [e2] at b2
  rw [e3] at b3
  match k, hk with
  | 0, _ =>
    have h := or_at 0 a0 24 (by omega) (by omega)
    have x1 : (getN (v.take 0) 4) = ((2 ^ (24 + 8) * 0 : Nat) : Int) := by simp [getN, byAt]
    have x2 : byAt v 0 % 4294967296 * 2 ^ (24 - 8 * 0) % 4294967296 = ((a0 * 2 ^ 24 : Nat) : Int) := by rw [e0]; omega
    rw [x1, x2, h]
    simp [getN, byAt_tk, e0]; omega
  | 1, _ =>
    have h := or_at a0 a1 16 (by omega) (by omega)
    have x1 : (getN (v.take 1) 4) = ((2 ^ (16 + 8) * a0 : Nat) : Int) := by simp [getN, byAt_tk, e0]; omega
    have x2 : byAt v 1 % 4294967296 * 2 ^ (24 - 8 * 1) % 4294967296 = ((a1 * 2 ^ 16 : Nat) : Int) := by rw [e1]; omega
    rw [x1, x2, h]
    simp [getN, byAt_tk, e0, e1]; omega
  | 2, _ =>
    have h := or_at (a0 * 256 + a1) a2 8 (by omega) (by omega)
    have x1 : (getN (v.take 2) 4) = ((2 ^ (8 + 8) * (a0 * 256 + a1) : Nat) : Int) := by simp [getN, byAt_tk, e0, e1]; omega
    have x2 : byAt v 2 % 4294967296 * 2 ^ (24 - 8 * 2) % 4294967296 = ((a2 * 2 ^ 8 : Nat) : Int) := by rw [e2]; omega
    rw [x1, x2, h]
    simp [getN, byAt_tk, e0, e1, e2]; omega
  | 3, _ =>
    have h := or_at ((a0 * 256 + a1) * 256 + a2) a3 0 (by omega) (by omega)
    have x1 : (getN (v.take 3) 4) = ((2 ^ (0 + 8) * ((a0 * 256 + a1) * 256 + a2) : Nat) : Int) := by simp [getN, byAt_tk, e0, e1, e2]; omega
    have x2 : byAt v 3 % 4294967296 * 2 ^ (24 - 8 * 3) % 4294967296 = ((a3 * 2 ^ 0 : Nat) : Int) := by rw [e3]; omega
    rw [x1, x2, h]
    simp [getN, byAt_tk, e0, e1, e2, e3]; omega
theorem getN_none (l : List UInt8) : getN (l.take 0) 4 = 0 := by simp [getN, byAt]
set_option maxRecDepth 100000 in
set_option maxHeartbeats 8000000 in
theorem refRead3_any (w : World) (lo g : Nat) (s : St) (h : Ref w lo g s) (hlo : lo ≤ w.heap.size) : Calls Try.prog 83 #[.pointer (some ⟨g, 0, none⟩)] w fun e w' => w.grownBy w' (some g) ∧ PdR w w' lo g e s := by
  have hi : (Try.prog.info? 61).map (·.size) = some 2 := by kernel_rfl
  have hlt := h.lt
  have hgw := hlt
  have hbd := pdN_bd s
  have hB := (Below.refl w.heap.size w).alloc (Nat.le_refl _) (.cells #[.int .u32 0, .int .i64 0] 61)
  have hr := Blk.new w 61 #[.int .u32 0, .int .i64 0]
  have h1 := h.alloc (.cells #[.int .u32 0, .int .i64 0] 61)
  have hG := grown_of hB (Nat.le_refl _) (some g)
  go_enter Try.func83, Try.ntmps83
  go_upto_region 1 with (fail)
  generalize w.alloc (.cells #[.int .u32 0, .int .i64 0] 61) = w1 at *
  go_wp2_with fail
  refine (refU8_any w1 lo g s h1).mono ?_
  rintro e w2 ⟨rfl, h2, hg2⟩
  have eN : numV s 1 = pdN s := rfl
  have eS : (tk s 1).1 = pdS1 s := rfl
  rw [eN]
  rw [eS] at h2
  replace hr := hr.grown hg2 (by simp; omega)
  replace hG := grown_trans hG hg2
  have lt2 := h2.lt
  have ltr := hr.lt
  have ce := h2.err2
  clear h1 hg2 eN eS hB
  by_cases h1e : (pdS1 s).e = 0
  rotate_left
  · have hno := Lib.hid (show ¬ (nxP s).e = 0 by
      unfold nxP
      by_cases h9 : pdN s ≤ 32
      · rw [if_pos h9]; exact fun q => h1e (tk_e _ _ q)
      · rw [if_neg h9]; simp)
    have hb : ((pdS1 s).e != 0) = true := by simpa using h1e
    replace h1e := Lib.hid h1e
    go_wp2_with (refine wpList_store_blk rfl hr 61 (.tmp 2) (.tmp 19) rfl rfl rfl rfl hi (by simp [Value.oneCell']) ?_; intro w4 hr4 hg4)
    try rw [Exit.noGoto_ret]
    refine bodyPost_ret (results_ct rfl _ rfl (load_blk hr4 Try.underlying61 rfl hi)) rfl ?_
    refine ⟨grown_new hG hg4 (Nat.le_refl _), ?_⟩
    unfold PdR
    rw [if_neg hno.out]
    rfl
  have hb : ((pdS1 s).e != 0) = false := by simpa using h1e
  by_cases hn : pdN s ≤ 32
  rotate_left
  · have hno := Lib.hid (show ¬ (nxP s).e = 0 by unfold nxP; rw [if_neg hn]; simp)
    have hn2 : 32 < pdN s := by omega
    replace h1e := Lib.hid h1e
    go_wp2_with (refine wpList_store_blk rfl hr 61 (.tmp 2) (.tmp 19) rfl rfl rfl rfl hi (by simp [Value.oneCell']) ?_; intro w4 hr4 hg4)
    try rw [Exit.noGoto_ret]
    refine bodyPost_ret (results_ct rfl _ rfl (load_blk hr4 Try.underlying61 rfl hi)) rfl ?_
    refine ⟨grown_new hG hg4 (Nat.le_refl _), ?_⟩
    unfold PdR
    rw [if_neg hno.out]
    rfl
  replace h1e := Lib.hid h1e
  have hn2 : ¬ 32 < pdN s := by omega
  have hb2 := (Below.refl w2.heap.size w2).alloc (Nat.le_refl _) (.cells #[.int .u32 0, .int .i64 (pdN s)] 61)
  have hq3 : w2.heap.size < (w2.alloc (.cells #[.int .u32 0, .int .i64 (pdN s)] 61)).heap.size := (Blk.new w2 61 #[.int .u32 0, .int .i64 (pdN s)]).lt
  have hp := Blk.new w2 61 #[.int .u32 0, .int .i64 (pdN s)]
  have h3 := h2.alloc (.cells #[.int .u32 0, .int .i64 (pdN s)] 61)
  have hr3 := hr.alloc (.cells #[.int .u32 0, .int .i64 (pdN s)] 61)
  have hG3 := grown_alloc hG (.cells #[.int .u32 0, .int .i64 (pdN s)] 61)
  have kw : IntKind.i64.wrap (pdN s + 7) = pdN s + 7 := IntWalk.i64_in _ (by omega)
  have kq : wrap64 (pdO s) = pdO s := by
    have := octN_le (pdN s).toNat (by omega)
    have h10 : pdO s = (octN (pdN s).toNat : Int) := rfl
    unfold wrap64
    omega
  have kq2 : (pdN s + 7).tdiv 8 = pdO s := by
      rw [Int.tdiv_eq_ediv_of_nonneg (by omega)]
      show _ = (((((pdN s).toNat + 7) / 8 : Nat)) : Int)
      omega
  go_upto_region 5 with (fail)
  generalize w2.alloc (.cells #[.int .u32 0, .int .i64 (pdN s)] 61) = w3 at *
  go_wp2_with fail
  rw [kq]
  refine (refBytes_any w3 lo g (pdS1 s) h3 (pdO s)).mono ?_
  rintro e w5 ⟨v5, rfl, own5, h5, hg5⟩
  have eV : (tk (pdS1 s) (pdO s)).2 = pdV s := rfl
  have eS : (tk (pdS1 s) (pdO s)).1 = pdS2 s := rfl
  rw [eV] at own5
  rw [eS] at h5
  obtain ⟨A5, c5, rfl, hc5, hcm5, by5, hA5⟩ := own5.any2
  have hvl : (pdV s).length ≤ 4 := by
    have h9 := octN_le (pdN s).toNat (by omega)
    have h10 : pdO s = (octN (pdN s).toNat : Int) := rfl
    rcases tk_len (pdS1 s) (pdO s) with h8 | h8
    · rw [eV] at h8; rw [h8, h10]; omega
    · rw [eV] at h8; omega
  replace hp := hp.grown hg5 (by simp; omega)
  replace hr3 := hr3.grown hg5 (by simp; omega)
  replace hG3 := grown_trans hG3 hg5
  have hwz : w2.heap.size < w3.heap.size := hq3
  have hA6 : ∀ a, A5 = some a → a.block ≠ w2.heap.size := fun a e => by have := hA5 a e; omega
  have hG3z := hG3.size
  clear hg5 eV eS own5 h3 kw kq2 kq
  go_wp2_with fail
  go_loopw [6, 7, 28] (fun _ _ i wr => ∃ k : Nat, k ≤ (pdV s).length ∧ i = .int .i64 (k : Int) ∧ Blk wr w2.heap.size 61 #[.int .u32 (getN ((pdV s).take k) 4), .int .i64 (pdN s)] ∧ w5.grownBy wr (some w2.heap.size)) (fun _ _ i _ => (pdV s).length - (intOf i).toNat)
  case atStart => exact ⟨0, Nat.zero_le _, rfl, by rw [getN_none]; exact hp, grown_refl _ _⟩
  case round =>
  obtain ⟨k, hk, rfl, hpk, hgk⟩ := hrel
  by_cases hlt : k < (pdV s).length
  · obtain ⟨b, off, rfl, hb, hc⟩ := by5.2 (by omega)
    have c0 := (grown_cell hgk hb (hA6 _ rfl)).trans (hc k hlt)
    have p0 : wr.cell? ⟨w2.heap.size, 0, none⟩ = some (.int .u32 (getN ((pdV s).take k) 4)) := hpk.cellv 0 rfl
    have f0 := hpk.frozen 0
    have lp := hpk.lt
    have hki : (k : Int) < (pdV s).length := by omega
    go_wp2_with fail
    obtain ⟨hp2, hg2⟩ := blk_store hpk 0 (.int .u32 (bits .or .u32 (getN ((pdV s).take k) 4) (byAt (pdV s) k % 4294967296 * 2 ^ (24 - 8 * k) % 4294967296)))
    refine ⟨⟨k + 1, by omega, by go_num, ?_, grown_trans hgk hg2⟩, by simp [intOf]; omega⟩
    rw [← or_byte _ _ (by omega)]
    exact hp2
  obtain rfl : k = (pdV s).length := by omega
  have h6 : Ref wr lo g (pdS2 s) := h5.grown_up hgk lt2
  have htk : (pdV s).take (pdV s).length = pdV s := List.take_length
  rw [htk] at hpk
  have hr6 := hr3.grown hgk (by simp; omega)
  have hG6 := grown_new hG3 hgk (by omega)
  have ce6 := h6.err2
  have lt6 := h6.lt
  replace htk := Lib.hid htk
  by_cases h2e : (pdS2 s).e = 0
  rotate_left
  · have hno := Lib.hid (show ¬ (nxP s).e = 0 by unfold nxP; rw [if_pos hn]; exact h2e)
    have hb : ((pdS2 s).e != 0) = true := by simpa using h2e
    replace h2e := Lib.hid h2e
    go_wp2_with (refine wpList_store_blk rfl hr6 61 (.tmp 2) (.tmp 50) rfl rfl rfl rfl hi (by simp [Value.oneCell']) ?_; intro w4 hr4 hg4)
    try rw [Exit.noGoto_ret]
    refine bodyPost_ret (results_ct rfl _ rfl (load_blk hr4 Try.underlying61 rfl hi)) rfl ?_
    refine ⟨grown_new hG6 hg4 (Nat.le_refl _), ?_⟩
    unfold PdR
    rw [if_neg hno.out]
    rfl
  have hyes := Lib.hid (show (nxP s).e = 0 by unfold nxP; rw [if_pos hn]; exact h2e)
  have hb : ((pdS2 s).e != 0) = false := by simpa using h2e
  replace h2e := Lib.hid h2e
  have ecl : clampN (pdN s) = (pdN s).toNat := by unfold clampN; rw [if_neg (by omega), if_neg (by omega)]
  have eP : pfC (cutA (pdA s) (pdN s).toNat) ((pdN s).toNat : Int) = #[.int .u32 (pdP s).1, .int .i64 (pdP s).2] := by
    unfold pfC pdP
    rw [show ((pdN s).toNat : Int) = pdN s by omega]
  have hab := pdA_bd s
  have p0 : wr.cell? ⟨w2.heap.size, 0, none⟩ = some (.int .u32 (pdA s)) := hpk.cellv 0 rfl
  have p1 : wr.cell? ⟨w2.heap.size, 1, none⟩ = some (.int .i64 (pdN s)) := hpk.cellv 1 rfl
  have lp := hpk.lt
  have ltr6 := hr6.lt
  have hcan := refCanon_any wr (pdA s) (pdN s) hab.1 hab.2
  rw [ecl, eP] at hcan
  clear eP ecl
  go_wp2_with (first
    | (go_at_call 88; refine hcan.mono ?_; rintro e w8 ⟨rfl, hb8⟩; have hr8 := hr6.below hb8 ltr6; have h8 := h6.below hb8 h6.lt; have hG8 := grown_trans hG6 (grown_of hb8 (Nat.le_refl _) _); have lt8 := hr8.lt)
    | (refine wpList_store_blk rfl hr8 61 (.tmp 2) (.tmp 52) rfl rfl rfl rfl hi (by simp [Value.oneCell']) ?_; intro w9 hr9 hg9))
  try rw [Exit.noGoto_ret]
  refine bodyPost_ret (results_ct rfl _ rfl (load_blk hr9 Try.underlying61 rfl hi)) rfl ?_
  refine ⟨grown_new hG8 hg9 (Nat.le_refl _), ?_⟩
  unfold PdR
  rw [if_pos hyes.out]
  exact ⟨rfl, h8.grown_up hg9 hgw⟩
set_option maxRecDepth 100000 in
set_option maxHeartbeats 8000000 in
theorem refParse3_any (w : World) (A : Option Addr) (n c : Nat) (l : List UInt8) (h : Byt w w.heap.size A n l) (hn : n ≤ 10000000) : Calls Try.prog 49 #[.slice A n c] w fun e w' => PpP 61 w w' e (parseP l) ∧ Below w.heap.size w w' := by
  have hl := Lib.hid h.1
  go_enter Try.func49, Try.ntmps49
  go_upto_region 3 with (go_at_call 44; refine (refRead_any w A n c l w.heap.size h (Nat.le_refl _) (by omega)).mono ?_; rintro e w1 ⟨g, rfl, hg, hsrc, hB⟩)
  have hlt := hsrc.lt
  have hrow := Rows.nil (R := pfK) w1 (g + 1) (g + 1) 61
  have h0 : parseP l = pfsS ⟨l, 0, 0⟩ := rfl
  have h00 := Lib.hid h0
  clear h0
  go_loopw [5, 6, 7] (fun v _ _ wr => ∃ s rs, Ref wr w.heap.size g s ∧ s.e = 0 ∧ s.l.length + rs.length ≤ n ∧ Rows pfK wr (g + 1) (g + 1) 61 v rs ∧ Below w.heap.size w wr ∧ parseP l = (pfsS s).map (rs ++ ·)) (fun _ _ _ wr => refLen wr g)
  case atStart => exact ⟨⟨l, 0, 0⟩, [], hsrc, rfl, by simp [hl.out], hrow, hB, by rw [h00.out]; cases pfsS ⟨l, 0, 0⟩ <;> simp⟩
  case round =>
  clear hsrc hrow hB h00
  obtain ⟨s, rs, hsrc, hse, hlr, hrow, hB, hsp⟩ := hrel
  have hlt := hsrc.lt
  have hlen := Lib.hid hsrc.refLen
  replace hsp := Lib.hid hsp
  have hgz := hB.size
  obtain ⟨A0, q0, ev, _, _, _⟩ := hrow.seen (Nat.le_refl _)
  subst ev
  by_cases hlf : 0 < leftV s
  rotate_left
  · have hend : pfsS s = some [] := seqL_end hlf
    have hlf2 : leftV s ≤ 0 := by omega
    replace hend := Lib.hid hend
    replace hse := Lib.hid hse
    go_wp2_with (go_at_call 82; refine (refLeft_any wr w.heap.size g s hsrc).mono ?_; rintro e wl ⟨kk, rfl, hdr⟩; have hbl : Below wr.heap.size wr wl := (by rw [hdr]; exact below_drewN (Below.refl _ _) kk); clear hdr)
    go_ret2
    refine ⟨?_, hB.trans (hbl.mono hgz)⟩
    rw [hsp.out, hend.out]
    exact ⟨_, rfl, by simpa using (hrow.below hbl).less (by omega) (by omega)⟩
  replace hse := Lib.hid hse
  go_wp2_with fail
  refine (refLeft_any wr w.heap.size g s hsrc).mono ?_
  rintro e wl ⟨kk, rfl, hdr⟩
  have hbl : Below wr.heap.size wr wl := by rw [hdr]; exact below_drewN (Below.refl _ _) kk
  replace hsrc := hsrc.below hbl hlt
  replace hrow := hrow.below hbl
  replace hB := hB.trans (hbl.mono hgz)
  replace hgz := hB.size
  replace hlt := hsrc.lt
  clear hdr hbl
  go_wp2_with fail
  refine (refRead3_any wl w.heap.size g s hsrc hgz).mono ?_
  rintro e w2 ⟨hg2, hpd⟩
  have hrow2 := hrow.kept hg2 (fun k e => by cases e; exact Nat.lt_succ_self _) (Nat.le_refl _)
  have hB2 : Below w.heap.size w w2 := below_own hB hg2 hgz hg
  unfold PdR at hpd
  by_cases hE : (nxP s).e = 0
  rotate_left
  · rw [if_neg hE] at hpd
    subst hpd
    have hno : pfsS s = none := seqL_no hlf hE
    replace hE := Lib.hid hE
    replace hno := Lib.hid hno
    have hb3 := (Below.refl w2.heap.size w2).alloc (Nat.le_refl _) (.cells #[.int .u32 0, .int .i64 0] 61)
    go_wp2_with fail
    go_ret2
    refine ⟨?_, hB2.trans (hb3.mono hB2.size)⟩
    rw [hsp.out, hno.out]
    rfl
  rw [if_pos hE] at hpd
  obtain ⟨rfl, hs2⟩ := hpd
  have hgo := pfsS_go hlf hE
  rw [nxP_yes hE] at hgo
  have hless := nxP_less s hE
  rw [nxP_yes hE] at hless
  have he2 : (pdS2 s).e = 0 := by rw [← nxP_yes hE]; exact hE
  replace hE := Lib.hid hE
  replace hgo := Lib.hid hgo
  replace he2 := Lib.hid he2
  clear hg2 hsrc hrow
  have hbx := (Below.refl w2.heap.size w2).alloc (Nat.le_refl _) (.cells #[.int .u32 (pdP s).1, .int .i64 (pdP s).2] 61)
  have hq := Blk.new w2 61 #[.int .u32 (pdP s).1, .int .i64 (pdP s).2]
  have hrow3 := hrow2.alloc (.cells #[.int .u32 (pdP s).1, .int .i64 (pdP s).2] 61)
  have hs3 := hs2.alloc (.cells #[.int .u32 (pdP s).1, .int .i64 (pdP s).2] 61)
  have hB3 := hB2.trans (hbx.mono hB2.size)
  have lt2 := hs2.lt
  have hok : ∀ (u : World) (S : Nat → Prop), pfK.ok u S (pdP s) := fun u S => pdP_bd s
  go_upto_region 7 with (fail)
  generalize w2.alloc (.cells #[.int .u32 (pdP s).1, .int .i64 (pdP s).2] 61) = w3 at *
  have ltq := hq.lt
  have z0 : w3.cell? ⟨w2.heap.size, 0, none⟩ = some (.int .u32 (pdP s).1) := hq.cellv 0 rfl
  have z1 : w3.cell? ⟨w2.heap.size, 1, none⟩ = some (.int .i64 (pdP s).2) := hq.cellv 1 rfl
  have hone := seen_one w3 61 (pdP s) #[.int .u32 (pdP s).1, .int .i64 (pdP s).2] rfl (hok w3 (fun b => b < w3.heap.size)) (S' := fun b => b < w3.heap.size + 1) (fun b hb => hb) (Nat.lt_succ_self _) (fun b hb => by omega)
  have hby := (Below.refl w3.heap.size w3).alloc (Nat.le_refl _) (.cells #[.int .u32 (pdP s).1, .int .i64 (pdP s).2] 61)
  have hrow4 := hrow3.alloc (.cells #[.int .u32 (pdP s).1, .int .i64 (pdP s).2] 61)
  have hs4 := hs3.alloc (.cells #[.int .u32 (pdP s).1, .int .i64 (pdP s).2] 61)
  have hzy := hby.size
  have lt3 := hs3.lt
  have lt4 := hs4.lt
  replace hlr := Lib.hid hlr
  go_wp2_with (at_builtin; refine wpList_rows pf_ok rfl (.tmp 20) (.tmp 22) rfl hrow4 rfl rfl hone (fun e he => by obtain rfl : e = pdP s := (by simpa using he); exact hok _ _) (by have := hlr.out; unfold maxLen; omega) (by have := hlr.out; omega) (by omega) ?_; intro v9 w9 hrow9 hg9)
  have hb9 := hrow4.below_app hg9 (by omega)
  have hs9 := hs4.below hb9 (Nat.lt_succ_self _)
  have hz3 := hB3.size
  have hB9 : Below w.heap.size w w9 := hB3.trans ((hby.mono hz3).trans (hb9.mono (by omega)))
  refine ⟨⟨pdS2 s, rs ++ [pdP s], hs9, he2.out, by have := hlr.out; simp; omega, hrow9, hB9, ?_⟩, ?_⟩
  · rw [hsp.out, hgo.out]
    cases pfsS (pdS2 s) <;> simp
  · rw [hlen.out, hs9.refLen]
    exact hless
end Go.Proofs.Ytfnclmacodchfaa
