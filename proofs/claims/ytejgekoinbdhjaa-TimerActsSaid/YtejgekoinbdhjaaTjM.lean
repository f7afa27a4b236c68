/- timer: sweep's test; slices.IndexFunc with it. -/
import Derived.Test.YtejgekoinbdhjaaTjL
namespace Go.Proofs.Ytejgekoinbdhjaa
set_option linter.unusedVariables false
open Go Go.RowKit Go.Maps

set_option maxRecDepth 100000 in
set_option maxHeartbeats 4000000 in
theorem sweep1_any (w : World) (g b pb : Nat) (mo no co : Int) (v : Value) (A H : List Slo) (h : TabV w g b mo no co v A H) (hp : Blk w pb 90 #[.pointer (some ⟨g, 0, none⟩)]) (s : Slo) (hs : SloOk s) :
    Calls Try.prog 176 #[.agg #[.int .i64 s.id, .int .i64 s.ex, .int .i64 s.od], .pointer (some ⟨pb, 0, none⟩)] w fun e w' => e = .returned (.bool (decide (s ∉ A))) ∧ Below w.heap.size w w' := by
  have hB := (Below.refl w.heap.size w).alloc (Nat.le_refl _) (.cells #[.int .i64 s.id, .int .i64 s.ex, .int .i64 s.od] 198)
  have hq := Blk.new w 198 #[.int .i64 s.id, .int .i64 s.ex, .int .i64 s.od]
  have h1 := h.nx hB
  have hp1 := hp.below hB hp.lt
  unfold SloOk at hs
  go_enter Try.func176, Try.ntmps176
  go_upto_region 1 with (fail)
  generalize w.alloc (.cells #[.int .i64 s.id, .int .i64 s.ex, .int .i64 s.od] 198) = w1 at *
  have c0 : w1.cell? ⟨pb, 0, none⟩ = some (.pointer (some ⟨g, 0, none⟩)) := hp1.cellv 0 rfl
  have e0 : w1.cell? ⟨w.heap.size, 0, none⟩ = some (.int .i64 s.id) := hq.cellv 0 rfl
  have e1 : w1.cell? ⟨w.heap.size, 1, none⟩ = some (.int .i64 s.ex) := hq.cellv 1 rfl
  have e2 : w1.cell? ⟨w.heap.size, 2, none⟩ = some (.int .i64 s.od) := hq.cellv 2 rfl
  have hz := hB.size
  have l1 := hp1.lt
  have l2 := hq.lt
  go_wp2_with (go_at_call 177; refine (oldT_any w1 g b mo no co v A H h1 s (by omega) (by omega) hs.2.2).mono ?_; rintro e w3 ⟨rfl, hB3⟩)
  go_ret
  exact ⟨by by_cases hq : s ∈ A <;> simp [hq], hB.trans (hB3.mono hz)⟩
theorem slo_cells2 {w : World} {S : Nat → Prop} {A : Option Addr} {n : Nat} {L : List Slo} {k : Nat} (h : Seen sloK w S A n L) (hk : k < n) :
    ∃ b off s, A = some ⟨b, off, none⟩ ∧ S b ∧ L[k]? = some s ∧ w.cell? ⟨b, off + k * 3, none⟩ = some (.int .i64 s.id) ∧ w.cell? ⟨b, off + k * 3 + 1, none⟩ = some (.int .i64 s.ex) ∧ w.cell? ⟨b, off + k * 3 + 2, none⟩ = some (.int .i64 s.od) := by
  have hlt : k < L.length := by rw [h.1]; exact hk
  have hr := List.getElem?_eq_getElem hlt
  obtain ⟨b, off, e, hb, hc⟩ := h.cell hr
  exact ⟨b, off, _, e, hb, hr, hc 0 (by decide), hc 1 (by decide), hc 2 (by decide)⟩
set_option maxRecDepth 100000 in
set_option maxHeartbeats 4000000 in
theorem indexF_any (w : World) (g b pb : Nat) (mo no co : Int) (v : Value) (A H : List Slo) (h : TabV w g b mo no co v A H) (hp : Blk w pb 90 #[.pointer (some ⟨g, 0, none⟩)]) (hok : ∀ s ∈ H, SloOk s) (A0 : Option Addr) (n c : Nat) (hS : Seen sloK w (fun b => b < w.heap.size) A0 n H) (hn : n ≤ 1000000) :
    Calls Try.prog 190 #[.slice A0 n c, .func (.func 176) #[] #[.pointer (some ⟨pb, 0, none⟩)]] w fun e w' => ∃ i : Int, e = .returned (.int .i64 i) ∧ Below w.heap.size w w' ∧ ((i = -1 ∧ ∀ s ∈ H, s ∈ A) ∨ ∃ k : Nat, i = k ∧ k < n ∧ (∀ s ∈ H.take k, s ∈ A) ∧ ∀ s, H[k]? = some s → s ∉ A) := by
  have hHn := hS.1
  replace hHn := Lib.hid hHn
  go_enter Try.func190, Try.ntmps190
  go_wp2_with fail
  go_loopw [8] (fun i wr => ∃ k : Nat, k ≤ n ∧ i = .int .i64 (k : Int) ∧ (∀ s ∈ H.take k, s ∈ A) ∧ Below w.heap.size w wr) (fun i _ => n - (intOf i).toNat)
  case atStart => exact ⟨0, Nat.zero_le _, rfl, by simp, Below.refl _ _⟩
  case round =>
  obtain ⟨k, hk, rfl, ha, hB⟩ := hrel
  have hz := hB.size
  replace ha := Lib.hid ha
  by_cases hlt : k < n
  · obtain ⟨b', off, s, rfl, hb1, hsk, e0, e1, e2⟩ := slo_cells2 (hS.below hB (fun _ q => q)) hlt
    have ltb : b' < wr.heap.size := Nat.lt_of_lt_of_le hb1 hz
    have hki : (k : Int) < n := by omega
    have hTk := h.nx hB
    have hpk := hp.below hB hp.lt
    have hsok := hok s (List.mem_of_getElem? hsk)
    by_cases hsA : s ∈ A
    · have hd : decide (s ∉ A) = false := by simpa using hsA
      have hst : ∀ x ∈ H.take (k + 1), x ∈ A := fun x hx => by
        rw [List.take_add_one, hsk] at hx
        rcases List.mem_append.1 hx with q | q
        · exact ha.out x q
        · have : x = s := by simpa using q
          rw [this]; exact hsA
      replace hst := Lib.hid hst
      replace hsk := Lib.hid hsk
      replace hd := Lib.hid hd
      go_wp2_with (go_at_call 176; refine (sweep1_any wr g b pb mo no co v A H hTk hpk s hsok).mono ?_; rw [hd.out]; rintro e w3 ⟨rfl, hB3⟩)
      exact ⟨⟨k + 1, by omega, by go_num, hst.out, hB.trans (hB3.mono hz)⟩, by simp [intOf]; omega⟩
    · have hd : decide (s ∉ A) = true := by simpa using hsA
      have hst : ∀ x, H[k]? = some x → x ∉ A := fun x hx => by rw [hsk] at hx; injection hx with hx; rw [← hx]; exact hsA
      replace hst := Lib.hid hst
      replace hsk := Lib.hid hsk
      replace hd := Lib.hid hd
      go_wp2_with (go_at_call 176; refine (sweep1_any wr g b pb mo no co v A H hTk hpk s hsok).mono ?_; rw [hd.out]; rintro e w3 ⟨rfl, hB3⟩)
      go_ret
      exact ⟨_, rfl, hB.trans (hB3.mono hz), .inr ⟨k, rfl, hlt, ha.out, hst.out⟩⟩
  · obtain rfl : k = n := by omega
    go_wp2_with fail
    go_ret
    exact ⟨_, rfl, hB, .inl ⟨rfl, fun s hs => ha.out s (by rw [List.take_of_length_le (by rw [hHn.out]; exact Nat.le_refl _)]; exact hs)⟩⟩
end Go.Proofs.Ytejgekoinbdhjaa
