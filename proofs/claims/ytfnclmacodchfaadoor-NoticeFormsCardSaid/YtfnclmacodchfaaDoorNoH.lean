/- notice: hex of any bytes. -/
import Derived.Test.YtfnclmacodchfaaDoorNoD
namespace Go.Proofs.YtfnclmacodchfaaDoor
set_option linter.unusedVariables false
open Go Go.RowKit

/-- a digit of hex. -/
def hxD (x : Nat) : UInt8 := (⟨#[48, 49, 50, 51, 52, 53, 54, 55, 56, 57, 97, 98, 99, 100, 101, 102]⟩ : ByteArray)[x]?.getD 0
def hexL (l : List UInt8) : List UInt8 := l.flatMap fun c => [hxD (c.toNat / 16), hxD (c.toNat % 16)]
theorem hexL_len (l : List UInt8) : (hexL l).length = 2 * l.length := by
  unfold hexL
  induction l with
  | nil => rfl
  | cons c l ih => rw [List.flatMap_cons, List.length_append, ih, List.length_cons]; simp; omega
theorem hexL_take (l : List UInt8) (k : Nat) (c : UInt8) (h : l[k]? = some c) : hexL (l.take (k + 1)) = (hexL (l.take k) ++ [hxD (c.toNat / 16)]) ++ [hxD (c.toNat % 16)] := by
  rw [List.take_add_one, h]
  simp [hexL]
theorem hx_run (x : Nat) (hx : x < 16) (w : World) : (Instr.index 9 (.string ⟨#[48, 49, 50, 51, 52, 53, 54, 55, 56, 57, 97, 98, 99, 100, 101, 102]⟩) (.int .u8 (x : Int))).run Tryd.prog w = .ok (.int .u8 ((hxD x).toNat : Int)) w := by
  have hc : x = 0 ∨ x = 1 ∨ x = 2 ∨ x = 3 ∨ x = 4 ∨ x = 5 ∨ x = 6 ∨ x = 7 ∨ x = 8 ∨ x = 9 ∨ x = 10 ∨ x = 11 ∨ x = 12 ∨ x = 13 ∨ x = 14 ∨ x = 15 := by omega
  clear hx
  rcases hc with rfl | rfl | rfl | rfl | rfl | rfl | rfl | rfl | rfl | rfl | rfl | rfl | rfl | rfl | rfl | rfl <;> (show _ = _; kernel_rfl)
set_option maxRecDepth 100000 in
set_option maxHeartbeats 4000000 in
theorem hex1_any (w : World) (x : Nat) (hx : x < 16) (p n base : Nat) (v : Value) (l : List UInt8) (hq : Blk w p 22 #[v]) (own : OwnB w base v n l) (hpb : p < base) (hbs : base ≤ w.heap.size) (hn : n ≤ 1000000) :
    Calls Tryd.prog 28 #[.int .u8 (x : Int), .pointer (some ⟨p, 0, none⟩)] w fun e w' => e = .returned (.tuple #[]) ∧ ∃ v', Blk w' p 22 #[v'] ∧ OwnB w' base v' (n + 1) (l ++ [hxD x]) ∧ Below p w w' := by
  have hI := hx_run x hx
  have c0 : w.cell? ⟨p, 0, none⟩ = some v := hq.cellv 0 rfl
  have f0 := hq.frozen 0
  have lp := hq.lt
  go_enter Tryd.func28, Tryd.ntmps28
  have c0d : w.drew.cell? ⟨p, 0, none⟩ = some v := c0
  have hqd : Blk w.drew p 22 #[v] := hq
  have ownd : OwnB w.drew base v n l := own.drew
  have hbd := (Below.refl p w).drew
  -- region 0: 0 1 2 3M 4M 5M
  try refine wp_region_noPanic ?_
  have hs1r : (fun w' => True) w.drew := trivial
  refine wp_region_held_drew (S := fun w' => True) (by kernel_rfl) hs1r (fun _ => ?_)
  (refine held_takeA 1 (by rfl) ?_ (by kernel_rfl) (fun _ _ _ h => h) hs1r ?_ ?_; rotate_left; (focus (intro wq hSw; have hrd := hSw; go_simp; try with_reducible rfl; done)); try simp only [Act.put, List.setIfInBounds_toArray, List.set_cons_zero, List.set_cons_succ])
  (refine held_takeA 2 (by rfl) ?_ (by kernel_rfl) (fun _ _ _ h => h) hs1r ?_ ?_; rotate_left; (focus (intro wq hSw; have hrd := hSw; go_simp; try with_reducible rfl; done)); try simp only [Act.put, List.setIfInBounds_toArray, List.set_cons_zero, List.set_cons_succ])
  refine held_two 0 3 (by rfl) (by rfl) (by kernel_rfl) (by rfl) (by rfl) (fun KQ hKQ => ?_) (fun KQ hKQ => ?_)
  · skip
    go_simp
    have hs2r := trivial
    refine hKQ.out _ _ hs2r ?_
    clear hKQ KQ
    try simp only [Act.put, List.setIfInBounds_toArray, List.set_cons_zero, List.set_cons_succ]
    refine held_callA 3 (by rfl) (by kernel_rfl) (by rfl) (fun KQ hKQ => ?_)
    go_simp
    have hb4 := ((Below.refl w.heap.size w).alloc (Nat.le_refl _) (.cells #[.int .u8 ((hxD x).toNat : Int)] 5)).drew
    have hq4 := hq.below hb4 lp
    have own4 := own.below hb4
    have one : Byt (w.alloc (.cells #[.int .u8 ((hxD x).toNat : Int)] 5)).drew (w.heap.size + 1) (some ⟨w.heap.size, 0, none⟩) 1 [hxD x] := Byt.new w [hxD x] 5 (0, 0)
    have hz4 : w.heap.size + 1 ≤ ((w.alloc (.cells #[.int .u8 ((hxD x).toNat : Int)] 5)).drew).heap.size := by simp
    have hzz := hb4.size
    have hw1 : w.drew.heap.size = w.heap.size := rfl
    generalize (w.alloc (.cells #[.int .u8 ((hxD x).toNat : Int)] 5)).drew = w4 at *
    have c4 : w4.cell? ⟨p, 0, none⟩ = some v := hq4.cellv 0 rfl
    have l4 := hq4.lt
    have hs3r := trivial
    refine hKQ.out _ _ hs3r ?_
    clear hKQ KQ
    try simp only [Act.put, List.setIfInBounds_toArray, List.set_cons_zero, List.set_cons_succ]
    refine held_callA 4 (by rfl) (by kernel_rfl) (by rfl) (fun KQ hKQ => ?_)
    refine wp_app w4 (.tmp 3) (.tmp 6) (by rfl) base v n l (by rfl) own4 (w.heap.size + 1) _ 1 1 [hxD x] (by rfl) one (by omega) (by omega) ?_
    intro v5 w5 own5 hg5 hd5
    have hb5 := own4.below_app hg5 (by omega)
    have hq5 := hq4.below hb5 hpb
    have c5 : w5.cell? ⟨p, 0, none⟩ = some v := hq5.cellv 0 rfl
    have f5 := hq5.frozen 0
    have l5 := hq5.lt
    clear hd5
    have hln := fun k (hk : v5.ownBlock = some k) => own5.lt k hk
    obtain ⟨A6, c6, rfl, _, _, _, _⟩ := own5.any2
    have hs4r := trivial
    refine hKQ.out _ _ hs4r ?_
    clear hKQ KQ
    try simp only [Act.put, List.setIfInBounds_toArray, List.set_cons_zero, List.set_cons_succ]
    refine held_callA 5 (by rfl) (by kernel_rfl) (by rfl) (fun KQ hKQ => ?_)
    go_simp
    obtain ⟨hq6, hg6⟩ := blk_store hq5 0 (.slice A6 (n + 1) c6)
    generalize w5.setCell ⟨p, 0, none⟩ (.slice A6 (n + 1) c6) = w6 at *
    have hs5r := trivial
    refine hKQ.out _ _ hs5r ?_
    clear hKQ KQ
    try simp only [Act.put]
    refine wpAnyH_done (by kernel_rfl) ?_ _
    try refine NoPanic.normal ?_
    have own6 := own5.kept hg6 (by
      cases hv : (Value.slice A6 (n + 1) c6).ownBlock with
      | none => exact .inl rfl
      | some q => exact .inr (by intro e; injection e with e; have h9 := (hln q hv).1; omega))
    have hB5 : Below p w w5 := (hb4.mono (Nat.le_of_lt lp)).trans (hb5.mono (Nat.le_of_lt hpb))
    have hB6 := below_own hB5 hg6 (Nat.le_of_lt l5) (Nat.le_refl p)
    go_wp2_with fail
    go_end0
    exact ⟨rfl, _, hq6, own6, hB6⟩
  · skip
    go_simp
    have hb4 := ((Below.refl w.heap.size w).alloc (Nat.le_refl _) (.cells #[.int .u8 ((hxD x).toNat : Int)] 5)).drew
    have hq4 := hq.below hb4 lp
    have own4 := own.below hb4
    have one : Byt (w.alloc (.cells #[.int .u8 ((hxD x).toNat : Int)] 5)).drew (w.heap.size + 1) (some ⟨w.heap.size, 0, none⟩) 1 [hxD x] := Byt.new w [hxD x] 5 (0, 0)
    have hz4 : w.heap.size + 1 ≤ ((w.alloc (.cells #[.int .u8 ((hxD x).toNat : Int)] 5)).drew).heap.size := by simp
    have hzz := hb4.size
    have hw1 : w.drew.heap.size = w.heap.size := rfl
    generalize (w.alloc (.cells #[.int .u8 ((hxD x).toNat : Int)] 5)).drew = w4 at *
    have c4 : w4.cell? ⟨p, 0, none⟩ = some v := hq4.cellv 0 rfl
    have l4 := hq4.lt
    have hs6r := trivial
    refine hKQ.out _ _ hs6r ?_
    clear hKQ KQ
    try simp only [Act.put, List.setIfInBounds_toArray, List.set_cons_zero, List.set_cons_succ]
    refine held_callA 0 (by rfl) (by kernel_rfl) (by rfl) (fun KQ hKQ => ?_)
    go_simp
    have hs7r := trivial
    refine hKQ.out _ _ hs7r ?_
    clear hKQ KQ
    try simp only [Act.put, List.setIfInBounds_toArray, List.set_cons_zero, List.set_cons_succ]
    refine held_callA 4 (by rfl) (by kernel_rfl) (by rfl) (fun KQ hKQ => ?_)
    refine wp_app w4 (.tmp 3) (.tmp 6) (by rfl) base v n l (by rfl) own4 (w.heap.size + 1) _ 1 1 [hxD x] (by rfl) one (by omega) (by omega) ?_
    intro v5 w5 own5 hg5 hd5
    have hb5 := own4.below_app hg5 (by omega)
    have hq5 := hq4.below hb5 hpb
    have c5 : w5.cell? ⟨p, 0, none⟩ = some v := hq5.cellv 0 rfl
    have f5 := hq5.frozen 0
    have l5 := hq5.lt
    clear hd5
    have hln := fun k (hk : v5.ownBlock = some k) => own5.lt k hk
    obtain ⟨A6, c6, rfl, _, _, _, _⟩ := own5.any2
    have hs8r := trivial
    refine hKQ.out _ _ hs8r ?_
    clear hKQ KQ
    try simp only [Act.put, List.setIfInBounds_toArray, List.set_cons_zero, List.set_cons_succ]
    refine held_callA 5 (by rfl) (by kernel_rfl) (by rfl) (fun KQ hKQ => ?_)
    go_simp
    obtain ⟨hq6, hg6⟩ := blk_store hq5 0 (.slice A6 (n + 1) c6)
    generalize w5.setCell ⟨p, 0, none⟩ (.slice A6 (n + 1) c6) = w6 at *
    have hs9r := trivial
    refine hKQ.out _ _ hs9r ?_
    clear hKQ KQ
    try simp only [Act.put]
    refine wpAnyH_done (by kernel_rfl) ?_ _
    try refine NoPanic.normal ?_
    have own6 := own5.kept hg6 (by
      cases hv : (Value.slice A6 (n + 1) c6).ownBlock with
      | none => exact .inl rfl
      | some q => exact .inr (by intro e; injection e with e; have h9 := (hln q hv).1; omega))
    have hB5 : Below p w w5 := (hb4.mono (Nat.le_of_lt lp)).trans (hb5.mono (Nat.le_of_lt hpb))
    have hB6 := below_own hB5 hg6 (Nat.le_of_lt l5) (Nat.le_refl p)
    go_wp2_with fail
    go_end0
    exact ⟨rfl, _, hq6, own6, hB6⟩
set_option maxRecDepth 100000 in
set_option maxHeartbeats 8000000 in
theorem hex_any (w : World) (A : Option Addr) (n c : Nat) (l : List UInt8) (h : Byt w w.heap.size A n l) (hn : n ≤ 100000) :
    Calls Tryd.prog 21 #[.slice A n c] w fun e w' => e = .returned (.string (strB (hexL l))) ∧ Below w.heap.size w w' := by
  have hB := (Below.refl w.heap.size w).alloc (Nat.le_refl _) (.cells #[.slice none 0 0] 22)
  have hq := Blk.new w 22 #[.slice none 0 0]
  have h1 := h.nx hB
  have hl := Lib.hid h.1
  go_enter Tryd.func21, Tryd.ntmps21
  go_upto_region 3 with (fail)
  generalize w.alloc (.cells #[.slice none 0 0] 22) = w1 at *
  have hpl := hq.lt
  have own : OwnB w1 (w.heap.size + 1) (.slice none 0 0) 0 [] := OwnB.nil w1 _
  go_wp2_with fail
  go_loopw [6, 10] (fun _ i wr => ∃ k : Nat, k ≤ n ∧ i = .int .i64 (k : Int) ∧ (∃ v, Blk wr w.heap.size 22 #[v] ∧ OwnB wr (w.heap.size + 1) v (2 * k) (hexL (l.take k))) ∧ Below w.heap.size w wr) (fun _ i _ => n - (intOf i).toNat)
  case atStart => exact ⟨0, Nat.zero_le _, rfl, ⟨_, hq, own⟩, hB⟩
  case round =>
  obtain ⟨k, hk, rfl, ⟨v, hqr, ownr⟩, hBr⟩ := hrel
  have hpr := hqr.lt
  by_cases hlt : k < n
  · have hki : (k : Int) < n := by omega
    obtain ⟨b, off, rfl, hbl, hc⟩ := h.2 (by omega)
    have d0 : wr.cell? ⟨b, off + k, none⟩ = some (.int .u8 (l[k]?.getD 0).toNat) := (hBr.cell (p := ⟨b, off + k, none⟩) hbl).trans (hc k hlt)
    have bl1 : b < wr.heap.size := Nat.lt_of_lt_of_le hbl hBr.size
    obtain ⟨x, hx⟩ : ∃ x, l[k]? = some x := ⟨_, List.getElem?_eq_getElem (by have := hl.out; omega)⟩
    have ht := hexL_take l k x hx
    rw [hx, Option.getD_some] at d0
    replace ht := Lib.hid ht
    have hx1 := x.toNat_lt
    have hc1 := hex1_any wr (x.toNat / 16) (by omega) w.heap.size (2 * k) (w.heap.size + 1) v (hexL (l.take k)) hqr ownr (Nat.lt_succ_self _) (by omega) (by omega)
    rw [show ((x.toNat / 16 : Nat) : Int) = (x.toNat : Int) / 16 by omega] at hc1
    go_wp2_with fail
    refine hc1.mono ?_
    clear hc1
    rintro e w2 ⟨rfl, v2, hq2, own2, hb2⟩
    have z2 := hq2.lt
    have hc2 := hex1_any w2 (x.toNat % 16) (by omega) w.heap.size (2 * k + 1) (w.heap.size + 1) v2 (hexL (l.take k) ++ [hxD (x.toNat / 16)]) hq2 own2 (Nat.lt_succ_self _) (by omega) (by omega)
    rw [show ((x.toNat % 16 : Nat) : Int) = (x.toNat : Int) % 16 by omega, ← ht.out] at hc2
    go_wp2_with fail
    refine hc2.mono ?_
    clear hc2
    rintro e w3 ⟨rfl, v3, hq3, own3, hb3⟩
    go_wp2_with fail
    exact ⟨⟨k + 1, by omega, by go_num, ⟨v3, hq3, own3⟩, (hBr.trans hb2).trans hb3⟩, by simp [intOf]; omega⟩
  · obtain rfl : k = n := by omega
    have hs := ownr.str
    obtain ⟨A5, c5, rfl, _, _, _, _⟩ := ownr.any2
    have c0 : wr.cell? ⟨w.heap.size, 0, none⟩ = some (.slice A5 (2 * k) c5) := hqr.cellv 0 rfl
    go_wp2_with fail
    go_ret
    exact ⟨by rw [List.take_of_length_le (by have := hl.out; omega)]; rfl, hBr⟩
end Go.Proofs.YtfnclmacodchfaaDoor
