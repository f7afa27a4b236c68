/- flows: Purge, Expire. -/
import Derived.Test.YtejgekoinbdhjaaFlK
namespace Go.Proofs.Ytejgekoinbdhjaa
set_option linter.unusedVariables false
open Go Go.RowKit Go.Maps

set_option maxRecDepth 100000 in
set_option maxHeartbeats 4000000 in
theorem sweepPurge {w : World} {g m e : Nat} {ro idl now ca we : Int} {dt : Nat → EnV} {bk nx : Nat → Nat} {l : List Nat} (w0 : World) (z : Int) (h : RingV w g m e ro idl now ca we l dt bk nx) (cb : Nat) (hcap : Blk w cb 3 #[.int .i64 z]) (hbase : w0.heap.size ≤ w.heap.size) (hold : g < w0.heap.size ∧ m < w0.heap.size ∧ ∀ k ∈ e :: l, k < w0.heap.size) (hcb : w0.heap.size ≤ cb) (hl : l.length ≤ 1000000) :
    Calls Try.prog 118 #[.pointer (some ⟨g, 0, none⟩), .func (.func 121) #[] #[.pointer (some ⟨cb, 0, none⟩)]] w fun en w' => ∃ v bk' nx', en = .returned v ∧ RingV w' g m e ro idl now ca we (l.filter fun k => !(soB z (dt k))) dt bk' nx' ∧ Rows enK w' w0.heap.size w0.heap.size 62 v ((l.filter fun k => soB z (dt k)).map dt) ∧ Chg w w' (fun k => k = m ∨ k ∈ e :: l ∨ w0.heap.size ≤ k) := by
  have hB1 := (Below.refl w.heap.size w).alloc (Nat.le_refl _) (.cells #[.pointer (some ⟨g, 0, none⟩)] 59)
  have ht1 := Blk.new w 59 #[.pointer (some ⟨g, 0, none⟩)]
  have h1 := h.fwd hB1
  have hc1 := hcap.alloc (.cells #[.pointer (some ⟨g, 0, none⟩)] 59)
  have z1 : (w.alloc (.cells #[.pointer (some ⟨g, 0, none⟩)] 59)).heap.size = w.heap.size + 1 := by simp
  go_enter Try.func118, Try.ntmps118
  have hB2 := hB1.alloc hB1.size (.cells #[.func (.func 121) #[] #[.pointer (some ⟨cb, 0, none⟩)]] 182)
  have hs2 := Blk.new (w.alloc (.cells #[.pointer (some ⟨g, 0, none⟩)] 59)) 182 #[.func (.func 121) #[] #[.pointer (some ⟨cb, 0, none⟩)]]
  have ht2 := ht1.alloc (.cells #[.func (.func 121) #[] #[.pointer (some ⟨cb, 0, none⟩)]] 182)
  have hc2 := hc1.alloc (.cells #[.func (.func 121) #[] #[.pointer (some ⟨cb, 0, none⟩)]] 182)
  rw [z1] at hs2
  have h2 := h.fwd hB2
  have z2 : ((w.alloc (.cells #[.pointer (some ⟨g, 0, none⟩)] 59)).alloc (.cells #[.func (.func 121) #[] #[.pointer (some ⟨cb, 0, none⟩)]] 182)).heap.size = w.heap.size + 2 := by simp
  clear hB1 ht1 h1 hc1 z1
  go_upto_region 1 with (fail)
  generalize (w.alloc (.cells #[.pointer (some ⟨g, 0, none⟩)] 59)).alloc (.cells #[.func (.func 121) #[] #[.pointer (some ⟨cb, 0, none⟩)]] 182) = w2 at *
  have hB3 := hB2.alloc hB2.size (.cells #[.slice none 0 0] 65)
  have ho3 := Blk.new w2 65 #[.slice none 0 0]
  have hs3 := hs2.alloc (.cells #[.slice none 0 0] 65)
  have ht3 := ht2.alloc (.cells #[.slice none 0 0] 65)
  have hc3 := hc2.alloc (.cells #[.slice none 0 0] 65)
  have h3 := h.fwd hB3
  rw [z2] at ho3
  clear hB2 hs2 ht2 hc2 h2
  replace z2 := Lib.hid z2
  go_upto_region 2 with (fail)
  try rw [z2.out]
  have z3 := hB3.size
  generalize w2.alloc (.cells #[.slice none 0 0] 65) = w3 at *
  have t0 : w3.cell? ⟨w.heap.size, 0, none⟩ = some (.pointer (some ⟨g, 0, none⟩)) := ht3.cellv 0 rfl
  have ltt := ht3.lt
  obtain ⟨tb, htb⟩ : ∃ tb, tb = w.heap.size := ⟨_, rfl⟩
  obtain ⟨sb, hsb⟩ : ∃ sb, sb = w.heap.size + 1 := ⟨_, rfl⟩
  obtain ⟨ob, hob⟩ : ∃ ob, ob = w.heap.size + 2 := ⟨_, rfl⟩
  rw [← htb] at t0 ltt ht3
  rw [← hsb] at hs3
  rw [← hob] at ho3
  rw [← htb, show tb + 1 = sb by omega, show tb + 2 = ob by omega]
  have hlo : w0.heap.size ≤ ob ∧ w0.heap.size ≤ tb ∧ w0.heap.size ≤ sb ∧ w0.heap.size ≤ cb := by omega
  replace htb := Lib.hid htb
  replace hsb := Lib.hid hsb
  replace hob := Lib.hid hob
  have hea := eachSweepPurge w0 z h3 sb tb ob cb hs3 hc3 ht3 ho3 (by omega) hold hlo hl 
  go_upto_region 3 with (go_at_call 122; refine hea.mono ?_; rintro en w4 ⟨rfl, bk', nx', v, h4, ho4, hrow4, hC4⟩)
  have o0 : w4.cell? ⟨ob, 0, none⟩ = some v := ho4.cellv 0 rfl
  have lto := ho4.lt
  go_wp2_with fail
  go_ret
  exact ⟨v, bk', nx', rfl, h4, hrow4, (Chg.of_below hB3).trans hC4 (fun _ _ q1 => q1)⟩
set_option maxRecDepth 100000 in
set_option maxHeartbeats 4000000 in
theorem sweepExpire {w : World} {g m e : Nat} {ro idl now ca we : Int} {dt : Nat → EnV} {bk nx : Nat → Nat} {l : List Nat} (w0 : World)  (h : RingV w g m e ro idl now ca we l dt bk nx) (cb : Nat) (hcap : Blk w cb 59 #[.pointer (some ⟨g, 0, none⟩)]) (hbase : w0.heap.size ≤ w.heap.size) (hold : g < w0.heap.size ∧ m < w0.heap.size ∧ ∀ k ∈ e :: l, k < w0.heap.size) (hcb : w0.heap.size ≤ cb) (hl : l.length ≤ 1000000) (hn1 : 0 ≤ now) (hn2 : 0 ≤ idl ∧ idl ≤ 1000000) (hn3 : now ≤ 9223372036854775807) :
    Calls Try.prog 118 #[.pointer (some ⟨g, 0, none⟩), .func (.func 119) #[] #[.pointer (some ⟨cb, 0, none⟩)]] w fun en w' => ∃ v bk' nx', en = .returned v ∧ RingV w' g m e ro idl now ca we (l.filter fun k => !(soE now idl (dt k))) dt bk' nx' ∧ Rows enK w' w0.heap.size w0.heap.size 62 v ((l.filter fun k => soE now idl (dt k)).map dt) ∧ Chg w w' (fun k => k = m ∨ k ∈ e :: l ∨ w0.heap.size ≤ k) := by
  have hB1 := (Below.refl w.heap.size w).alloc (Nat.le_refl _) (.cells #[.pointer (some ⟨g, 0, none⟩)] 59)
  have ht1 := Blk.new w 59 #[.pointer (some ⟨g, 0, none⟩)]
  have h1 := h.fwd hB1
  have hc1 := hcap.alloc (.cells #[.pointer (some ⟨g, 0, none⟩)] 59)
  have z1 : (w.alloc (.cells #[.pointer (some ⟨g, 0, none⟩)] 59)).heap.size = w.heap.size + 1 := by simp
  go_enter Try.func118, Try.ntmps118
  have hB2 := hB1.alloc hB1.size (.cells #[.func (.func 119) #[] #[.pointer (some ⟨cb, 0, none⟩)]] 182)
  have hs2 := Blk.new (w.alloc (.cells #[.pointer (some ⟨g, 0, none⟩)] 59)) 182 #[.func (.func 119) #[] #[.pointer (some ⟨cb, 0, none⟩)]]
  have ht2 := ht1.alloc (.cells #[.func (.func 119) #[] #[.pointer (some ⟨cb, 0, none⟩)]] 182)
  have hc2 := hc1.alloc (.cells #[.func (.func 119) #[] #[.pointer (some ⟨cb, 0, none⟩)]] 182)
  rw [z1] at hs2
  have h2 := h.fwd hB2
  have z2 : ((w.alloc (.cells #[.pointer (some ⟨g, 0, none⟩)] 59)).alloc (.cells #[.func (.func 119) #[] #[.pointer (some ⟨cb, 0, none⟩)]] 182)).heap.size = w.heap.size + 2 := by simp
  clear hB1 ht1 h1 hc1 z1
  go_upto_region 1 with (fail)
  generalize (w.alloc (.cells #[.pointer (some ⟨g, 0, none⟩)] 59)).alloc (.cells #[.func (.func 119) #[] #[.pointer (some ⟨cb, 0, none⟩)]] 182) = w2 at *
  have hB3 := hB2.alloc hB2.size (.cells #[.slice none 0 0] 65)
  have ho3 := Blk.new w2 65 #[.slice none 0 0]
  have hs3 := hs2.alloc (.cells #[.slice none 0 0] 65)
  have ht3 := ht2.alloc (.cells #[.slice none 0 0] 65)
  have hc3 := hc2.alloc (.cells #[.slice none 0 0] 65)
  have h3 := h.fwd hB3
  rw [z2] at ho3
  clear hB2 hs2 ht2 hc2 h2
  replace z2 := Lib.hid z2
  go_upto_region 2 with (fail)
  try rw [z2.out]
  have z3 := hB3.size
  generalize w2.alloc (.cells #[.slice none 0 0] 65) = w3 at *
  have t0 : w3.cell? ⟨w.heap.size, 0, none⟩ = some (.pointer (some ⟨g, 0, none⟩)) := ht3.cellv 0 rfl
  have ltt := ht3.lt
  obtain ⟨tb, htb⟩ : ∃ tb, tb = w.heap.size := ⟨_, rfl⟩
  obtain ⟨sb, hsb⟩ : ∃ sb, sb = w.heap.size + 1 := ⟨_, rfl⟩
  obtain ⟨ob, hob⟩ : ∃ ob, ob = w.heap.size + 2 := ⟨_, rfl⟩
  rw [← htb] at t0 ltt ht3
  rw [← hsb] at hs3
  rw [← hob] at ho3
  rw [← htb, show tb + 1 = sb by omega, show tb + 2 = ob by omega]
  have hlo : w0.heap.size ≤ ob ∧ w0.heap.size ≤ tb ∧ w0.heap.size ≤ sb ∧ w0.heap.size ≤ cb := by omega
  replace htb := Lib.hid htb
  replace hsb := Lib.hid hsb
  replace hob := Lib.hid hob
  have hea := eachSweepExpire w0  h3 sb tb ob cb hs3 hc3 ht3 ho3 (by omega) hold hlo hl hn1 hn2 hn3
  go_upto_region 3 with (go_at_call 122; refine hea.mono ?_; rintro en w4 ⟨rfl, bk', nx', v, h4, ho4, hrow4, hC4⟩)
  have o0 : w4.cell? ⟨ob, 0, none⟩ = some v := ho4.cellv 0 rfl
  have lto := ho4.lt
  go_wp2_with fail
  go_ret
  exact ⟨v, bk', nx', rfl, h4, hrow4, (Chg.of_below hB3).trans hC4 (fun _ _ q1 => q1)⟩
set_option maxRecDepth 100000 in
set_option maxHeartbeats 4000000 in
theorem purgeF_in {w : World} {g m e : Nat} {ro idl now ca we : Int} {dt : Nat → EnV} {bk nx : Nat → Nat} {l : List Nat} (h : RingV w g m e ro idl now ca we l dt bk nx) (z : Int) (hl : l.length ≤ 1000000) :
    Calls Try.prog 46 #[.pointer (some ⟨g, 0, none⟩), .int .i64 z] w fun en w' => ∃ bk' nx', en = .returned (.int .i64 (l.filter fun k => soB z (dt k)).length) ∧ RingV w' g m e ro idl now ca we (l.filter fun k => !(soB z (dt k))) dt bk' nx' ∧ Chg w w' (fun k => k = m ∨ k ∈ e :: l) := by
  have hB1 := (Below.refl w.heap.size w).alloc (Nat.le_refl _) (.cells #[.int .i64 z] 3)
  have hc1 := Blk.new w 3 #[.int .i64 z]
  have h1 := h.fwd hB1
  have hlt := h.lt
  go_enter Try.func46, Try.ntmps46
  go_upto_region 1 with (fail)
  have z1 := hB1.size
  generalize w.alloc (.cells #[.int .i64 z] 3) = w1 at *
  have hsw := sweepPurge w z h1 w.heap.size hc1 z1 hlt (Nat.le_refl _) hl
  go_wp2_with (go_at_call 118; refine hsw.mono ?_; rintro en w2 ⟨v, bk', nx', rfl, h2, hrow, hC⟩; obtain ⟨A9, c9, rfl, -⟩ := hrow.1.any)
  go_ret
  refine ⟨bk', nx', rfl, h2, ?_⟩
  have hCC : Chg w w2 (fun k => k = m ∨ k ∈ e :: l ∨ w.heap.size ≤ k) := (Chg.of_below hB1).trans hC (fun _ _ q1 => q1)
  exact hCC.mono fun i hi q1 => by
    rcases q1 with q1 | q1 | q1
    · exact .inl q1
    · exact .inr q1
    · omega
set_option maxRecDepth 100000 in
set_option maxHeartbeats 4000000 in
theorem expireF_in {w : World} {g m e : Nat} {ro idl now ca we : Int} {dt : Nat → EnV} {bk nx : Nat → Nat} {l : List Nat} (h : RingV w g m e ro idl now ca we l dt bk nx) (t : Int) (hl : l.length ≤ 1000000) (hn1 : 0 ≤ now) (hn2 : 0 ≤ idl ∧ idl ≤ 1000000) (hn3 : max now t ≤ 9223372036854775807) :
    Calls Try.prog 41 #[.pointer (some ⟨g, 0, none⟩), .int .i64 t] w fun en w' => ∃ v bk' nx', en = .returned v ∧ RingV w' g m e ro idl (max now t) ca we (l.filter fun k => !(soE (max now t) idl (dt k))) dt bk' nx' ∧ Rows enK w' w.heap.size w.heap.size 62 v ((l.filter fun k => soE (max now t) idl (dt k)).map dt) ∧ Chg w w' (fun k => k = g ∨ k = m ∨ k ∈ e :: l) := by
  have hB1 := (Below.refl w.heap.size w).alloc (Nat.le_refl _) (.cells #[.pointer (some ⟨g, 0, none⟩)] 59)
  have ht1 := Blk.new w 59 #[.pointer (some ⟨g, 0, none⟩)]
  have h1 := h.fwd hB1
  have hlt := h.lt
  go_enter Try.func41, Try.ntmps41
  go_upto_region 1 with (fail)
  have z1 := hB1.size
  generalize w.alloc (.cells #[.pointer (some ⟨g, 0, none⟩)] 59) = w1 at *
  have t0 : w1.cell? ⟨w.heap.size, 0, none⟩ = some (.pointer (some ⟨g, 0, none⟩)) := ht1.cellv 0 rfl
  have ltt := ht1.lt
  go_upto_region 4 with (first
    | (go_at_call 113; refine (madeF_in h1).mono ?_; rintro en w' ⟨rfl, rfl⟩)
    | (go_at_call 114; refine (timeF_any h1 t).mono ?_; rintro en w2 ⟨rfl, h2, hC2⟩))
  have ht2 := hC2.blk ht1 (by omega)
  have z2 := hC2.size
  have t0' : w2.cell? ⟨w.heap.size, 0, none⟩ = some (.pointer (some ⟨g, 0, none⟩)) := ht2.cellv 0 rfl
  have ltt2 := ht2.lt
  have hsw := sweepExpire w h2 w.heap.size ht2 (by omega) hlt (Nat.le_refl _) hl (by omega) hn2 hn3
  go_wp2_with (go_at_call 118; refine hsw.mono ?_; rintro en w3 ⟨v, bk', nx', rfl, h3, hrow, hC3⟩)
  go_ret
  refine ⟨v, bk', nx', rfl, h3, hrow, ?_⟩
  have hCC : Chg w w3 (fun k => k = g ∨ k = m ∨ k ∈ e :: l ∨ w.heap.size ≤ k) := ((Chg.of_below (X := fun k => k = g ∨ k = m ∨ k ∈ e :: l ∨ w.heap.size ≤ k) hB1).trans hC2 (fun _ _ q1 => .inl q1)).trans hC3 (fun _ _ q1 => .inr q1)
  exact hCC.mono fun i hi q1 => by
    rcases q1 with q1 | q1 | q1 | q1
    · exact .inl q1
    · exact .inr (.inl q1)
    · exact .inr (.inr q1)
    · omega
end Go.Proofs.Ytejgekoinbdhjaa
