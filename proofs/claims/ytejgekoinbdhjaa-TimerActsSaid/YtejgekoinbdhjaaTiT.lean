/- timer: TimerTimes: the law is true of every input. -/
import Derived.Test.YtejgekoinbdhjaaTiS
namespace Go.Proofs.Ytejgekoinbdhjaa
set_option linter.unusedVariables false
open Go Go.RowKit Go.Maps

theorem lenX {w : World} {X : Nat → Prop} {g : Nat} {mo no co : Int} {M : List Slo} (h : TabX w X g mo no co M) :
    Calls Try.prog 56 #[.pointer (some ⟨g, 0, none⟩)] w fun e w' => e = .returned (.int .i64 M.length) ∧ w = w' := by
  obtain ⟨b, v, A, H, hT, hG, hX, hlt⟩ := h
  refine (lenT_in hT).mono ?_
  rintro e w' ⟨rfl, rfl⟩
  exact ⟨by rw [hG.perm.length_eq], rfl⟩
theorem TabX.up {w w' : World} {X Y : Nat → Prop} {g : Nat} {mo no co : Int} {M : List Slo} (h : TabX w X g mo no co M) (hXY : ∀ k, X k → Y k) (hY : ∀ k, Y k → k < w.heap.size) : TabX w Y g mo no co M := by
  obtain ⟨b, v, A, H, hT, hG, hX, hlt⟩ := h
  exact ⟨b, v, A, H, hT, hG, fun k hk => hXY k (hX k hk), hY⟩
set_option maxRecDepth 100000 in
set_option maxHeartbeats 8000000 in
theorem times13_walk (A : Option Addr) (n c : Nat) (bs : List UInt8) (a b : Int) (w : World) (hc : n ≤ c) (hm : c ≤ maxLen) (hS : Byt w w.heap.size A n bs) (_wa : (Lit.int .i64 a).wf = true) (_wb : (Lit.int .i64 b).wf = true) :
    Calls Try.prog 10 #[.slice A n c, .int .i64 a, .int .i64 b] w fun e w' => e = .returned (.bool true) ∧ Below w.heap.size w w' := by
  have hl1 := Lib.hid hS.1
  go_enter Try.func10, Try.ntmps10
  by_cases hbig : 100 < n
  · have d1 : decide ((100 : Int) < n) = true := by simp; omega
    go_wp2_with (go_at_call 52; refine (lives13_any w).mono ?_; rintro e w' ⟨rfl, hb⟩)
    go_ret
    exact ⟨rfl, hb⟩
  have hn1 : n ≤ 100 := by omega
  have d1 : decide ((100 : Int) < n) = false := by simp; omega
  clear hbig
  go_wp2_with fail
  refine (newX w 100 (by omega) (by omega)).mono ?_
  rintro e w1 ⟨g, X, rfl, hT, hX, hB⟩
  go_wp2_with fail
  go_loopw [8, 9, 23] (fun _ _ i wr => ∃ (k : Nat) (Y : Nat → Prop), k ≤ n ∧ i = .int .i64 (k : Int) ∧ TabX wr Y g 100 0 (k : Int) (rowN bs k) ∧ (∀ j, Y j → w.heap.size ≤ j) ∧ Below w.heap.size w wr) (fun _ _ i _ => n - (intOf i).toNat)
  case atStart => exact ⟨0, X, Nat.zero_le _, rfl, hT, hX, hB⟩
  case round =>
  clear hT hX hB
  obtain ⟨k, Y, hk, rfl, hT, hY, hB⟩ := hrel
  by_cases hlt : k < n
  · obtain ⟨bb, off, rfl, hbb, hcell⟩ := hS.2 (by omega)
    have c0 : wr.cell? ⟨bb, off + k, none⟩ = some (.int .u8 (byAt bs k)) := by rw [hB.cell hbb]; exact hcell k hlt
    clear hcell
    have b0 := byAt_lo bs k
    have b1 := byAt_hi bs k
    have hki : (k : Int) < n := by omega
    have ltb : bb < wr.heap.size := Nat.lt_of_lt_of_le hbb hB.size
    have hrow := Lib.hid (rowN_succ bs k)
    have hadd := Lib.hid (addT_byte bs k)
    go_wp2_with (go_at_call 54; refine (armNewX hT (k : Int) (1 + byAt bs k) (by omega) (by omega) (by omega) rowN_new (by omega)).mono ?_; rintro e w2 ⟨rfl, hT2, hC2⟩)
    rw [hadd.out] at hT2
    have hB2 := below_chg hB hC2 hY (Nat.le_refl _)
    refine ⟨⟨k + 1, fun j => Y j ∨ (wr.heap.size ≤ j ∧ j < w2.heap.size), by omega, by go_num, ?_, fun j q => q.elim (hY j) fun q => Nat.le_trans hB.size q.1, hB2⟩, by simp [intOf]; omega⟩
    rw [hrow.out]
    exact hT2
  · obtain rfl : k = n := by omega
    clear hlt
    have hone := fromN_one bs k
    rw [← hone] at hT
    replace hone := Lib.hid hone
    have hlen := Lib.hid (show (fromN bs k 1).length = k by rw [hone.out]; unfold rowN; simp)
    go_wp2_with fail
    go_loopw [10, 11] (fun lv nv wr => ∃ m : Nat, m ≤ 256 ∧ lv = .int .i64 ((fromN bs k ((m : Int) + 1)).length : Int) ∧ nv = .int .i64 ((m : Int) + 1) ∧ TabX wr Y g 100 (m : Int) (k : Int) (fromN bs k ((m : Int) + 1)) ∧ Below w.heap.size w wr) (fun _ nv _ => 257 - (intOf nv).toNat)
    case atStart => exact ⟨0, by omega, by rw [show ((0 : Nat) : Int) + 1 = 1 from rfl, hlen.out], rfl, hT, hB⟩
    case round =>
    generalize wr = wo at *
    clear hT hB
    obtain ⟨m, hm, rfl, rfl, hT, hB⟩ := hrel
    have hz := hB.size
    by_cases hlt : m < 256
    · have hmi : (m : Int) + 1 ≤ 256 := by omega
      have hnx := fromN_next bs k ((m : Int) + 1)
      have hfl := Lib.hid (fromN_len bs k ((m : Int) + 1))
      have hfle := fromN_le bs k ((m : Int) + 1)
      have hnow : ((fromN bs k ((m : Int) + 1)).filter (isAt ((m : Int) + 1))).map Slo.id = nowN bs k ((m : Int) + 1) := rfl
      replace hnx := Lib.hid hnx
      replace hnow := Lib.hid hnow
      obtain ⟨L, hL⟩ : ∃ L, L = nowN bs k ((m : Int) + 1) := ⟨_, rfl⟩
      have hLa : L.Pairwise fun a b => a < b := by rw [hL]; exact nowN_asc _ _ _
      have hLm : ∀ z ∈ L, ∃ i : Nat, i < k ∧ z = i ∧ 1 + byAt bs i = (m : Int) + 1 := fun z hz => nowN_mem (by rw [← hL]; exact hz)
      replace hL := Lib.hid hL
      have hLl : L.length ≤ k := by rw [hL.out]; have := hfl.out; omega
      go_upto_region 16 with (go_at_call 55; refine (tickX hT (by omega) (by omega) (by omega)).mono ?_; rintro e w2 ⟨lv, rfl, hlv, hT2, hC2⟩; rw [hnow.out, ← hL.out] at hlv; rw [hnx.out] at hT2; obtain ⟨LA, LC, rfl, -, -, hLS⟩ := hlv.seen (Nat.le_refl _))
      have hB2 := below_chg hB hC2 hY (Nat.le_refl _)
      clear hT hB hC2 hz
      go_wp2_with fail
      go_loop [13, 46] (fun pv iv => ∃ j : Nat, j ≤ L.length ∧ pv = .int .i64 (lastN L j) ∧ iv = .int .i64 (j : Int)) (fun _ iv => L.length - (intOf iv).toNat)
      case atStart => exact ⟨0, Nat.zero_le _, rfl, rfl⟩
      case round =>
      obtain ⟨j, hj, rfl, rfl⟩ := hrel
      by_cases hjl : j < L.length
      · obtain ⟨lb, lo, z, rfl, hlb, hzj, cz⟩ := int_cell hLS hjl
        obtain ⟨i, hik, hzi, hbi⟩ := hLm z (List.mem_of_getElem? hzj)
        have hlast := lastN_lt hLa (fun z hz => by obtain ⟨i, _, e, _⟩ := hLm z hz; omega) hzj
        have hsucc := lastN_succ hzj
        obtain ⟨bb, off, rfl, hbb, hcell⟩ := hS.2 (by omega)
        have c0 : w2.cell? ⟨bb, off + i, none⟩ = some (.int .u8 (byAt bs i)) := by rw [hB2.cell hbb]; exact hcell i hik
        subst hzi
        have hne : (1 + byAt bs i != (m : Int) + 1) = false := by rw [hbi]; simp
        have dle : decide ((i : Int) ≤ lastN L j) = false := by simp; omega
        have hii : (i : Int) < k := by omega
        have hji : (j : Int) < L.length := by omega
        have ltl := hlb.2
        have ltb : bb < w2.heap.size := Nat.lt_of_lt_of_le hbb hB2.size
        have b0 := byAt_lo bs i
        have b1 := byAt_hi bs i
        replace hsucc := Lib.hid hsucc
        clear hbi hLa hLm hlv hLS hcell
        go_wp2_with fail
        go_round
        case rel => exact ⟨j + 1, by omega, by rw [hsucc.out], by go_num⟩
        case measure => simp [intOf]; omega
      · obtain rfl : j = L.length := by omega
        have hll : L.length ≤ (fromN bs k ((m : Int) + 1)).length := by rw [hL.out]; have := hfl.out; omega
        have esub : ((fromN bs k ((m : Int) + 1)).length : Int) - L.length = ((fromN bs k ((m : Int) + 1 + 1)).length : Int) := by rw [hL.out]; have := hfl.out; omega
        go_wp2_with fail
        exact ⟨⟨m + 1, by omega, rfl, by go_num, hT2, hB2⟩, by simp [intOf]; omega⟩
    · obtain rfl : m = 256 := by omega
      have he := fromN_end bs k ((256 : Nat) + 1) (by omega)
      rw [he] at hT ⊢
      have hcomm := addT_comm a b
      go_wp2_with (first
        | (go_at_call 56; refine (lenX hT).mono ?_; rintro e w' ⟨rfl, rfl⟩)
        | (go_at_call 57; refine (addT_any _ _ _).mono ?_; rintro e w' ⟨rfl, rfl⟩)
        | (go_at_call 58; refine (refAddT_any _ _ _).mono ?_; rintro e w' ⟨rfl, rfl⟩)
        | (go_at_call 52; refine (lives13_any _).mono ?_; rintro e w' ⟨rfl, hb⟩))
      go_ret
      exact ⟨rfl, hB.trans (hb.mono hz)⟩
end Go.Proofs.Ytejgekoinbdhjaa
