/- notice: hex. -/
import Derived.Test.YtfnclmacodchfaaDoorNoC
namespace Go.Proofs.YtfnclmacodchfaaDoor
set_option linter.unusedVariables false
open Go Go.RowKit

theorem OwnB.str {w : World} {base n : Nat} {v : Value} {l : List UInt8} (h : OwnB w base v n l) : (convert 22 9 v).run Tryd.prog w = .ok (.string (strB l)) w := by
  obtain ⟨A, c, rfl, _, hb, _⟩ := h.any
  exact run_str w hb c
set_option maxRecDepth 100000 in
set_option maxHeartbeats 4000000 in
theorem hex1_0 (w : World) (p n base : Nat) (v : Value) (l : List UInt8) (hq : Blk w p 22 #[v]) (own : OwnB w base v n l) (hpb : p < base) (hbs : base ≤ w.heap.size) (hn : n ≤ 1000000) :
    Calls Tryd.prog 28 #[.int .u8 0, .pointer (some ⟨p, 0, none⟩)] w fun e w' => e = .returned (.tuple #[]) ∧ ∃ v', Blk w' p 22 #[v'] ∧ OwnB w' base v' (n + 1) (l ++ [48]) ∧ Below p w w' := by
  have c0 : w.cell? ⟨p, 0, none⟩ = some v := hq.cellv 0 rfl
  have f0 := hq.frozen 0
  have lp := hq.lt
  go_enter Tryd.func28, Tryd.ntmps28
  have c0d : w.drew.cell? ⟨p, 0, none⟩ = some v := c0
  have hqd : Blk w.drew p 22 #[v] := hq
  have ownd : OwnB w.drew base v n l := own.drew
  have hbd := (Below.refl p w).drew
  -- region 0: 0 1 2 3M 4M 5M
  try refine wp_region_noPanic ?_
  have hs1r : (fun w' => True) w.drew := trivial
  refine wp_region_held_drew (S := fun w' => True) (by kernel_rfl) hs1r (fun _ => ?_)
  (refine held_takeA 1 (by rfl) ?_ (by kernel_rfl) (fun _ _ _ h => h) hs1r ?_ ?_; rotate_left; (focus (intro wq hSw; have hrd := hSw; go_simp; try with_reducible rfl; done)); try simp only [Act.put, List.setIfInBounds_toArray, List.set_cons_zero, List.set_cons_succ])
  (refine held_takeA 2 (by rfl) ?_ (by kernel_rfl) (fun _ _ _ h => h) hs1r ?_ ?_; rotate_left; (focus (intro wq hSw; have hrd := hSw; go_simp; try with_reducible rfl; done)); try simp only [Act.put, List.setIfInBounds_toArray, List.set_cons_zero, List.set_cons_succ])
  refine held_two 0 3 (by rfl) (by rfl) (by kernel_rfl) (by rfl) (by rfl) (fun KQ hKQ => ?_) (fun KQ hKQ => ?_)
  · skip
    go_simp
    have hs2r := trivial
    refine hKQ.out _ _ hs2r ?_
    clear hKQ KQ
    try simp only [Act.put, List.setIfInBounds_toArray, List.set_cons_zero, List.set_cons_succ]
    refine held_callA 3 (by rfl) (by kernel_rfl) (by rfl) (fun KQ hKQ => ?_)
    go_simp
    have hb4 := ((Below.refl w.heap.size w).alloc (Nat.le_refl _) (.cells #[.int .u8 48] 5)).drew
    have hq4 := hq.below hb4 lp
    have own4 := own.below hb4
    have one : Byt (w.alloc (.cells #[.int .u8 48] 5)).drew (w.heap.size + 1) (some ⟨w.heap.size, 0, none⟩) 1 [48] := Byt.new w [48] 5 (0, 0)
    have hz4 : w.heap.size + 1 ≤ ((w.alloc (.cells #[.int .u8 48] 5)).drew).heap.size := by simp
    have hzz := hb4.size
    have hw1 : w.drew.heap.size = w.heap.size := rfl
    have hd : ((({ data := #[48, 49, 50, 51, 52, 53, 54, 55, 56, 57, 97, 98, 99, 100, 101, 102] } : ByteArray)[0]'(by decide)).toNat : Int) = 48 := rfl
    simp only [hd]
    generalize (w.alloc (.cells #[.int .u8 48] 5)).drew = w4 at *
    have c4 : w4.cell? ⟨p, 0, none⟩ = some v := hq4.cellv 0 rfl
    have l4 := hq4.lt
    have hs3r := trivial
    refine hKQ.out _ _ hs3r ?_
    clear hKQ KQ
    try simp only [Act.put, List.setIfInBounds_toArray, List.set_cons_zero, List.set_cons_succ]
    refine held_callA 4 (by rfl) (by kernel_rfl) (by rfl) (fun KQ hKQ => ?_)
    refine wp_app w4 (.tmp 3) (.tmp 6) (by rfl) base v n l (by rfl) own4 (w.heap.size + 1) _ 1 1 [48] (by rfl) one (by omega) (by omega) ?_
    intro v5 w5 own5 hg5 hd5
    have hb5 := own4.below_app hg5 (by omega)
    have hq5 := hq4.below hb5 hpb
    have c5 : w5.cell? ⟨p, 0, none⟩ = some v := hq5.cellv 0 rfl
    have f5 := hq5.frozen 0
    have l5 := hq5.lt
    clear hd5
    have hln := fun k (hk : v5.ownBlock = some k) => own5.lt k hk
    obtain ⟨A6, c6, rfl, _, _, _, _⟩ := own5.any2
    have hs4r := trivial
    refine hKQ.out _ _ hs4r ?_
    clear hKQ KQ
    try simp only [Act.put, List.setIfInBounds_toArray, List.set_cons_zero, List.set_cons_succ]
    refine held_callA 5 (by rfl) (by kernel_rfl) (by rfl) (fun KQ hKQ => ?_)
    go_simp
    obtain ⟨hq6, hg6⟩ := blk_store hq5 0 (.slice A6 (n + 1) c6)
    generalize w5.setCell ⟨p, 0, none⟩ (.slice A6 (n + 1) c6) = w6 at *
    have hs5r := trivial
    refine hKQ.out _ _ hs5r ?_
    clear hKQ KQ
    try simp only [Act.put]
    refine wpAnyH_done (by kernel_rfl) ?_ _
    try refine NoPanic.normal ?_
    have own6 := own5.kept hg6 (by
      cases hv : (Value.slice A6 (n + 1) c6).ownBlock with
      | none => exact .inl rfl
      | some q => exact .inr (by intro e; injection e with e; have h9 := (hln q hv).1; omega))
    have hB5 : Below p w w5 := (hb4.mono (Nat.le_of_lt lp)).trans (hb5.mono (Nat.le_of_lt hpb))
    have hB6 := below_own hB5 hg6 (Nat.le_of_lt l5) (Nat.le_refl p)
    go_wp2_with fail
    go_end0
    exact ⟨rfl, _, hq6, own6, hB6⟩
  · skip
    go_simp
    have hb4 := ((Below.refl w.heap.size w).alloc (Nat.le_refl _) (.cells #[.int .u8 48] 5)).drew
    have hq4 := hq.below hb4 lp
    have own4 := own.below hb4
    have one : Byt (w.alloc (.cells #[.int .u8 48] 5)).drew (w.heap.size + 1) (some ⟨w.heap.size, 0, none⟩) 1 [48] := Byt.new w [48] 5 (0, 0)
    have hz4 : w.heap.size + 1 ≤ ((w.alloc (.cells #[.int .u8 48] 5)).drew).heap.size := by simp
    have hzz := hb4.size
    have hw1 : w.drew.heap.size = w.heap.size := rfl
    have hd : ((({ data := #[48, 49, 50, 51, 52, 53, 54, 55, 56, 57, 97, 98, 99, 100, 101, 102] } : ByteArray)[0]'(by decide)).toNat : Int) = 48 := rfl
    simp only [hd]
    generalize (w.alloc (.cells #[.int .u8 48] 5)).drew = w4 at *
    have c4 : w4.cell? ⟨p, 0, none⟩ = some v := hq4.cellv 0 rfl
    have l4 := hq4.lt
    have hs6r := trivial
    refine hKQ.out _ _ hs6r ?_
    clear hKQ KQ
    try simp only [Act.put, List.setIfInBounds_toArray, List.set_cons_zero, List.set_cons_succ]
    refine held_callA 0 (by rfl) (by kernel_rfl) (by rfl) (fun KQ hKQ => ?_)
    go_simp
    have hs7r := trivial
    refine hKQ.out _ _ hs7r ?_
    clear hKQ KQ
    try simp only [Act.put, List.setIfInBounds_toArray, List.set_cons_zero, List.set_cons_succ]
    refine held_callA 4 (by rfl) (by kernel_rfl) (by rfl) (fun KQ hKQ => ?_)
    refine wp_app w4 (.tmp 3) (.tmp 6) (by rfl) base v n l (by rfl) own4 (w.heap.size + 1) _ 1 1 [48] (by rfl) one (by omega) (by omega) ?_
    intro v5 w5 own5 hg5 hd5
    have hb5 := own4.below_app hg5 (by omega)
    have hq5 := hq4.below hb5 hpb
    have c5 : w5.cell? ⟨p, 0, none⟩ = some v := hq5.cellv 0 rfl
    have f5 := hq5.frozen 0
    have l5 := hq5.lt
    clear hd5
    have hln := fun k (hk : v5.ownBlock = some k) => own5.lt k hk
    obtain ⟨A6, c6, rfl, _, _, _, _⟩ := own5.any2
    have hs8r := trivial
    refine hKQ.out _ _ hs8r ?_
    clear hKQ KQ
    try simp only [Act.put, List.setIfInBounds_toArray, List.set_cons_zero, List.set_cons_succ]
    refine held_callA 5 (by rfl) (by kernel_rfl) (by rfl) (fun KQ hKQ => ?_)
    go_simp
    obtain ⟨hq6, hg6⟩ := blk_store hq5 0 (.slice A6 (n + 1) c6)
    generalize w5.setCell ⟨p, 0, none⟩ (.slice A6 (n + 1) c6) = w6 at *
    have hs9r := trivial
    refine hKQ.out _ _ hs9r ?_
    clear hKQ KQ
    try simp only [Act.put]
    refine wpAnyH_done (by kernel_rfl) ?_ _
    try refine NoPanic.normal ?_
    have own6 := own5.kept hg6 (by
      cases hv : (Value.slice A6 (n + 1) c6).ownBlock with
      | none => exact .inl rfl
      | some q => exact .inr (by intro e; injection e with e; have h9 := (hln q hv).1; omega))
    have hB5 : Below p w w5 := (hb4.mono (Nat.le_of_lt lp)).trans (hb5.mono (Nat.le_of_lt hpb))
    have hB6 := below_own hB5 hg6 (Nat.le_of_lt l5) (Nat.le_refl p)
    go_wp2_with fail
    go_end0
    exact ⟨rfl, _, hq6, own6, hB6⟩
set_option maxRecDepth 100000 in
set_option maxHeartbeats 4000000 in
theorem hex1_4 (w : World) (p n base : Nat) (v : Value) (l : List UInt8) (hq : Blk w p 22 #[v]) (own : OwnB w base v n l) (hpb : p < base) (hbs : base ≤ w.heap.size) (hn : n ≤ 1000000) :
    Calls Tryd.prog 28 #[.int .u8 4, .pointer (some ⟨p, 0, none⟩)] w fun e w' => e = .returned (.tuple #[]) ∧ ∃ v', Blk w' p 22 #[v'] ∧ OwnB w' base v' (n + 1) (l ++ [52]) ∧ Below p w w' := by
  have c0 : w.cell? ⟨p, 0, none⟩ = some v := hq.cellv 0 rfl
  have f0 := hq.frozen 0
  have lp := hq.lt
  go_enter Tryd.func28, Tryd.ntmps28
  have c0d : w.drew.cell? ⟨p, 0, none⟩ = some v := c0
  have hqd : Blk w.drew p 22 #[v] := hq
  have ownd : OwnB w.drew base v n l := own.drew
  have hbd := (Below.refl p w).drew
  -- region 0: 0 1 2 3M 4M 5M
  try refine wp_region_noPanic ?_
  have hs10r : (fun w' => True) w.drew := trivial
  refine wp_region_held_drew (S := fun w' => True) (by kernel_rfl) hs10r (fun _ => ?_)
  (refine held_takeA 1 (by rfl) ?_ (by kernel_rfl) (fun _ _ _ h => h) hs10r ?_ ?_; rotate_left; (focus (intro wq hSw; have hrd := hSw; go_simp; try with_reducible rfl; done)); try simp only [Act.put, List.setIfInBounds_toArray, List.set_cons_zero, List.set_cons_succ])
  (refine held_takeA 2 (by rfl) ?_ (by kernel_rfl) (fun _ _ _ h => h) hs10r ?_ ?_; rotate_left; (focus (intro wq hSw; have hrd := hSw; go_simp; try with_reducible rfl; done)); try simp only [Act.put, List.setIfInBounds_toArray, List.set_cons_zero, List.set_cons_succ])
  refine held_two 0 3 (by rfl) (by rfl) (by kernel_rfl) (by rfl) (by rfl) (fun KQ hKQ => ?_) (fun KQ hKQ => ?_)
  · skip
    go_simp
    have hs11r := trivial
    refine hKQ.out _ _ hs11r ?_
    clear hKQ KQ
    try simp only [Act.put, List.setIfInBounds_toArray, List.set_cons_zero, List.set_cons_succ]
    refine held_callA 3 (by rfl) (by kernel_rfl) (by rfl) (fun KQ hKQ => ?_)
    go_simp
    have hb4 := ((Below.refl w.heap.size w).alloc (Nat.le_refl _) (.cells #[.int .u8 52] 5)).drew
    have hq4 := hq.below hb4 lp
    have own4 := own.below hb4
    have one : Byt (w.alloc (.cells #[.int .u8 52] 5)).drew (w.heap.size + 1) (some ⟨w.heap.size, 0, none⟩) 1 [52] := Byt.new w [52] 5 (0, 0)
    have hz4 : w.heap.size + 1 ≤ ((w.alloc (.cells #[.int .u8 52] 5)).drew).heap.size := by simp
    have hzz := hb4.size
    have hw1 : w.drew.heap.size = w.heap.size := rfl
    have hd : ((({ data := #[48, 49, 50, 51, 52, 53, 54, 55, 56, 57, 97, 98, 99, 100, 101, 102] } : ByteArray)[4]'(by decide)).toNat : Int) = 52 := rfl
    simp only [hd]
    generalize (w.alloc (.cells #[.int .u8 52] 5)).drew = w4 at *
    have c4 : w4.cell? ⟨p, 0, none⟩ = some v := hq4.cellv 0 rfl
    have l4 := hq4.lt
    have hs12r := trivial
    refine hKQ.out _ _ hs12r ?_
    clear hKQ KQ
    try simp only [Act.put, List.setIfInBounds_toArray, List.set_cons_zero, List.set_cons_succ]
    refine held_callA 4 (by rfl) (by kernel_rfl) (by rfl) (fun KQ hKQ => ?_)
    refine wp_app w4 (.tmp 3) (.tmp 6) (by rfl) base v n l (by rfl) own4 (w.heap.size + 1) _ 1 1 [52] (by rfl) one (by omega) (by omega) ?_
    intro v5 w5 own5 hg5 hd5
    have hb5 := own4.below_app hg5 (by omega)
    have hq5 := hq4.below hb5 hpb
    have c5 : w5.cell? ⟨p, 0, none⟩ = some v := hq5.cellv 0 rfl
    have f5 := hq5.frozen 0
    have l5 := hq5.lt
    clear hd5
    have hln := fun k (hk : v5.ownBlock = some k) => own5.lt k hk
    obtain ⟨A6, c6, rfl, _, _, _, _⟩ := own5.any2
    have hs13r := trivial
    refine hKQ.out _ _ hs13r ?_
    clear hKQ KQ
    try simp only [Act.put, List.setIfInBounds_toArray, List.set_cons_zero, List.set_cons_succ]
    refine held_callA 5 (by rfl) (by kernel_rfl) (by rfl) (fun KQ hKQ => ?_)
    go_simp
    obtain ⟨hq6, hg6⟩ := blk_store hq5 0 (.slice A6 (n + 1) c6)
    generalize w5.setCell ⟨p, 0, none⟩ (.slice A6 (n + 1) c6) = w6 at *
    have hs14r := trivial
    refine hKQ.out _ _ hs14r ?_
    clear hKQ KQ
    try simp only [Act.put]
    refine wpAnyH_done (by kernel_rfl) ?_ _
    try refine NoPanic.normal ?_
    have own6 := own5.kept hg6 (by
      cases hv : (Value.slice A6 (n + 1) c6).ownBlock with
      | none => exact .inl rfl
      | some q => exact .inr (by intro e; injection e with e; have h9 := (hln q hv).1; omega))
    have hB5 : Below p w w5 := (hb4.mono (Nat.le_of_lt lp)).trans (hb5.mono (Nat.le_of_lt hpb))
    have hB6 := below_own hB5 hg6 (Nat.le_of_lt l5) (Nat.le_refl p)
    go_wp2_with fail
    go_end0
    exact ⟨rfl, _, hq6, own6, hB6⟩
  · skip
    go_simp
    have hb4 := ((Below.refl w.heap.size w).alloc (Nat.le_refl _) (.cells #[.int .u8 52] 5)).drew
    have hq4 := hq.below hb4 lp
    have own4 := own.below hb4
    have one : Byt (w.alloc (.cells #[.int .u8 52] 5)).drew (w.heap.size + 1) (some ⟨w.heap.size, 0, none⟩) 1 [52] := Byt.new w [52] 5 (0, 0)
    have hz4 : w.heap.size + 1 ≤ ((w.alloc (.cells #[.int .u8 52] 5)).drew).heap.size := by simp
    have hzz := hb4.size
    have hw1 : w.drew.heap.size = w.heap.size := rfl
    have hd : ((({ data := #[48, 49, 50, 51, 52, 53, 54, 55, 56, 57, 97, 98, 99, 100, 101, 102] } : ByteArray)[4]'(by decide)).toNat : Int) = 52 := rfl
    simp only [hd]
    generalize (w.alloc (.cells #[.int .u8 52] 5)).drew = w4 at *
    have c4 : w4.cell? ⟨p, 0, none⟩ = some v := hq4.cellv 0 rfl
    have l4 := hq4.lt
    have hs15r := trivial
    refine hKQ.out _ _ hs15r ?_
    clear hKQ KQ
    try simp only [Act.put, List.setIfInBounds_toArray, List.set_cons_zero, List.set_cons_succ]
    refine held_callA 0 (by rfl) (by kernel_rfl) (by rfl) (fun KQ hKQ => ?_)
    go_simp
    have hs16r := trivial
    refine hKQ.out _ _ hs16r ?_
    clear hKQ KQ
    try simp only [Act.put, List.setIfInBounds_toArray, List.set_cons_zero, List.set_cons_succ]
    refine held_callA 4 (by rfl) (by kernel_rfl) (by rfl) (fun KQ hKQ => ?_)
    refine wp_app w4 (.tmp 3) (.tmp 6) (by rfl) base v n l (by rfl) own4 (w.heap.size + 1) _ 1 1 [52] (by rfl) one (by omega) (by omega) ?_
    intro v5 w5 own5 hg5 hd5
    have hb5 := own4.below_app hg5 (by omega)
    have hq5 := hq4.below hb5 hpb
    have c5 : w5.cell? ⟨p, 0, none⟩ = some v := hq5.cellv 0 rfl
    have f5 := hq5.frozen 0
    have l5 := hq5.lt
    clear hd5
    have hln := fun k (hk : v5.ownBlock = some k) => own5.lt k hk
    obtain ⟨A6, c6, rfl, _, _, _, _⟩ := own5.any2
    have hs17r := trivial
    refine hKQ.out _ _ hs17r ?_
    clear hKQ KQ
    try simp only [Act.put, List.setIfInBounds_toArray, List.set_cons_zero, List.set_cons_succ]
    refine held_callA 5 (by rfl) (by kernel_rfl) (by rfl) (fun KQ hKQ => ?_)
    go_simp
    obtain ⟨hq6, hg6⟩ := blk_store hq5 0 (.slice A6 (n + 1) c6)
    generalize w5.setCell ⟨p, 0, none⟩ (.slice A6 (n + 1) c6) = w6 at *
    have hs18r := trivial
    refine hKQ.out _ _ hs18r ?_
    clear hKQ KQ
    try simp only [Act.put]
    refine wpAnyH_done (by kernel_rfl) ?_ _
    try refine NoPanic.normal ?_
    have own6 := own5.kept hg6 (by
      cases hv : (Value.slice A6 (n + 1) c6).ownBlock with
      | none => exact .inl rfl
      | some q => exact .inr (by intro e; injection e with e; have h9 := (hln q hv).1; omega))
    have hB5 : Below p w w5 := (hb4.mono (Nat.le_of_lt lp)).trans (hb5.mono (Nat.le_of_lt hpb))
    have hB6 := below_own hB5 hg6 (Nat.le_of_lt l5) (Nat.le_refl p)
    go_wp2_with fail
    go_end0
    exact ⟨rfl, _, hq6, own6, hB6⟩
set_option maxRecDepth 100000 in
set_option maxHeartbeats 8000000 in
theorem hex04_any (w : World) (A : Option Addr) (c : Nat) (h : Byt w w.heap.size A 2 [0, 4]) :
    Calls Tryd.prog 21 #[.slice A 2 c] w fun e w' => e = .returned (.string (strB [48, 48, 48, 52])) ∧ Below w.heap.size w w' := by
  have hB := (Below.refl w.heap.size w).alloc (Nat.le_refl _) (.cells #[.slice none 0 0] 22)
  have hq := Blk.new w 22 #[.slice none 0 0]
  have h1 := h.nx hB
  go_enter Tryd.func21, Tryd.ntmps21
  go_upto_region 3 with (fail)
  generalize w.alloc (.cells #[.slice none 0 0] 22) = w1 at *
  have hpl := hq.lt
  obtain ⟨p, hp⟩ : ∃ p, p = w.heap.size := ⟨_, rfl⟩
  obtain ⟨b, off, rfl, hbl, hc⟩ := h.2 (by omega)
  have d0 : w1.cell? ⟨b, off, none⟩ = some (.int .u8 0) := (hB.cell (p := ⟨b, off, none⟩) hbl).trans (by have := hc 0 (by omega); rwa [Nat.add_zero] at this)
  have d1 : w1.cell? ⟨b, off + 1, none⟩ = some (.int .u8 4) := (hB.cell (p := ⟨b, off + 1, none⟩) hbl).trans (hc 1 (by omega))
  have bl1 : b < w1.heap.size := Nat.lt_of_lt_of_le hbl hB.size
  have own : OwnB w1 (w.heap.size + 1) (.slice none 0 0) 0 [] := OwnB.nil w1 _
  clear hc h1
  go_wp2_with fail
  refine wp_loop_rounds 3 ?_
  change Code.rounds _ _ _ _ _ w1
  rw [rounds_succ]
  go_wp2_with fail
  refine (hex1_0 w1 w.heap.size 0 (w.heap.size + 1) _ [] hq own (Nat.lt_succ_self _) (by have := hq.lt; omega) (by omega)).mono ?_
  rintro e w2 ⟨rfl, v1, hq1, own1, hb1⟩
  have e10 : w2.cell? ⟨b, off, none⟩ = some (.int .u8 0) := (hb1.cell (p := ⟨b, off, none⟩) hbl).trans d0
  have e11 : w2.cell? ⟨b, off + 1, none⟩ = some (.int .u8 4) := (hb1.cell (p := ⟨b, off + 1, none⟩) hbl).trans d1
  have z1 := hq1.lt
  go_wp2_with fail
  refine (hex1_0 w2 w.heap.size 1 (w.heap.size + 1) _ [48] hq1 own1 (Nat.lt_succ_self _) (by have := hq1.lt; omega) (by omega)).mono ?_
  rintro e w3 ⟨rfl, v2, hq2, own2, hb2⟩
  have e20 : w3.cell? ⟨b, off, none⟩ = some (.int .u8 0) := (hb2.cell (p := ⟨b, off, none⟩) hbl).trans e10
  have e21 : w3.cell? ⟨b, off + 1, none⟩ = some (.int .u8 4) := (hb2.cell (p := ⟨b, off + 1, none⟩) hbl).trans e11
  have z2 := hq2.lt
  go_wp2_with fail
  rw [rounds_succ]
  go_wp2_with fail
  refine (hex1_0 w3 w.heap.size 2 (w.heap.size + 1) _ [48, 48] hq2 own2 (Nat.lt_succ_self _) (by have := hq2.lt; omega) (by omega)).mono ?_
  rintro e w4 ⟨rfl, v3, hq3, own3, hb3⟩
  have e30 : w4.cell? ⟨b, off, none⟩ = some (.int .u8 0) := (hb3.cell (p := ⟨b, off, none⟩) hbl).trans e20
  have e31 : w4.cell? ⟨b, off + 1, none⟩ = some (.int .u8 4) := (hb3.cell (p := ⟨b, off + 1, none⟩) hbl).trans e21
  have z3 := hq3.lt
  go_wp2_with fail
  refine (hex1_4 w4 w.heap.size 3 (w.heap.size + 1) _ [48, 48, 48] hq3 own3 (Nat.lt_succ_self _) (by have := hq3.lt; omega) (by omega)).mono ?_
  rintro e w5 ⟨rfl, v4, hq4, own4, hb4⟩
  have e40 : w5.cell? ⟨b, off, none⟩ = some (.int .u8 0) := (hb4.cell (p := ⟨b, off, none⟩) hbl).trans e30
  have e41 : w5.cell? ⟨b, off + 1, none⟩ = some (.int .u8 4) := (hb4.cell (p := ⟨b, off + 1, none⟩) hbl).trans e31
  have z4 := hq4.lt
  go_wp2_with fail
  rw [rounds_succ]
  replace own4 : OwnB w5 (w.heap.size + 1) v4 4 [48, 48, 48, 52] := own4
  have hs := own4.str
  obtain ⟨A5, c5, rfl, _, _, _, _⟩ := own4.any2
  have c0 : w5.cell? ⟨w.heap.size, 0, none⟩ = some (.slice A5 4 c5) := hq4.cellv 0 rfl
  go_wp2_with fail
  go_ret
  exact ⟨rfl, hB.trans (((hb1.trans hb2).trans hb3).trans hb4)⟩
end Go.Proofs.YtfnclmacodchfaaDoor
