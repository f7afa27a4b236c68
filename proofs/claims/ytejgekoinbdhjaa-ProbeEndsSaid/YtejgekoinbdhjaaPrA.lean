/- probe: the scheduler as it lies in memory; made, New, Add, Remove, Result. -/
import Derived.Test.YtejgekoinbdhjaaFMap
import Derived.Test.YtejgekoinbdhjaaIntK
import Derived.Test.YtejgekoinbdhjaaRowC
import Derived.Test.YtejgekoinbdhjaaRowS
import Derived.BigGuardPart
import Derived.Deep.Cut
import Derived.WalkSpells
namespace Go.Proofs.Ytejgekoinbdhjaa
set_option linter.unusedVariables false
open Go Go.RowKit Go.Maps

theorem nmap_und : Try.prog.underlying 122 = some (.map 3 3) := Try.underlying122
theorem amap_und : Try.prog.underlying 123 = some (.map 3 212) := Try.underlying123
@[go_sem] theorem neq_nmap (m : Option Nat) (w : World) : (binOp .neq 122 (.map m) (.map none)).run Try.prog w = .ok (.bool (!m.isNone)) w := Go.run_neq_map_nil w _ _ _ m nmap_und
@[go_sem] theorem make_nmap (w : World) : (Instr.makeMap 122 none).run Try.prog w = .ok (.map (some w.heap.size)) (w.alloc (.map #[] 0)) := rfl
@[go_sem] theorem make_amap (w : World) : (Instr.makeMap 123 none).run Try.prog w = .ok (.map (some w.heap.size)) (w.alloc (.map #[] 0)) := rfl
theorem asked_zero (w : World) : (zeroValue 212).run Try.prog w = .ok (.agg #[.int .i64 0, .int .i64 0]) w := by kernel_rfl
theorem int_zero (w : World) : (zeroValue 3).run Try.prog w = .ok (.int .i64 0) w := by kernel_rfl
def nV (z : Int) : Value := .int .i64 z
def aV (p : Int × Int) : Value := .agg #[.int .i64 p.1, .int .i64 p.2]
/-- block g is a scheduler: every, patience, now, the last number; when each is asked next is the map bn, what is waited for the map bw. -/
structure ProV (w : World) (g bn bw : Nat) (ev pa no sq : Int) (fn : Int → Option Int) (fw : Int → Option (Int × Int)) : Prop where
  blk : Blk w g 125 #[.int .i64 ev, .int .i64 pa, .int .i64 no, .int .i64 sq, .map (some bn), .map (some bw)]
  en : FMap nV w bn fn
  ew : FMap aV w bw fw
  ne : bn ≠ bw
section
variable {w w' : World} {g bn bw : Nat} {ev pa no sq : Int} {fn : Int → Option Int} {fw : Int → Option (Int × Int)}
theorem FMap.ne_blk {V : Type} {enc : V → Value} {b : Nat} {f : Int → Option V} {T : TypeId} {cs : Array Value} (h : FMap enc w b f) (hb : Blk w g T cs) : g ≠ b := by
  intro e
  obtain ⟨l, ⟨es, c, h2, _⟩, _⟩ := h
  unfold Blk at hb
  rw [e, h2] at hb
  cases hb
theorem ProV.gn (h : ProV w g bn bw ev pa no sq fn fw) : g ≠ bn := h.en.ne_blk h.blk
theorem ProV.gw (h : ProV w g bn bw ev pa no sq fn fw) : g ≠ bw := h.ew.ne_blk h.blk
theorem ProV.chg {X : Nat → Prop} (h : ProV w g bn bw ev pa no sq fn fw) (hc : Chg w w' X) (h1 : ¬ X g) (h2 : ¬ X bn) (h3 : ¬ X bw) : ProV w' g bn bw ev pa no sq fn fw :=
  ⟨hc.blk h.blk h1, h.en.chg hc h2, h.ew.chg hc h3, h.ne⟩
theorem ProV.nx (h : ProV w g bn bw ev pa no sq fn fw) (hb : Below w.heap.size w w') : ProV w' g bn bw ev pa no sq fn fw := h.chg (Chg.of_below (X := fun _ => False) hb) id id id
theorem ProV.lt (h : ProV w g bn bw ev pa no sq fn fw) : g < w.heap.size ∧ bn < w.heap.size ∧ bw < w.heap.size := ⟨h.blk.lt, h.en.lt, h.ew.lt⟩
end
set_option maxRecDepth 100000 in
theorem madeP_in {w : World} {g bn bw : Nat} {ev pa no sq : Int} {fn : Int → Option Int} {fw : Int → Option (Int × Int)} (h : ProV w g bn bw ev pa no sq fn fw) :
    Calls Try.prog 150 #[.pointer (some ⟨g, 0, none⟩)] w fun e w' => e = .returned (.bool true) ∧ w = w' := by
  have c1 : w.cell? ⟨g, 4, none⟩ = some (.map (some bn)) := h.blk.cellv 4 rfl
  go_enter Try.func150, Try.ntmps150
  go_wp2_with fail
  go_ret
  exact ⟨rfl, rfl⟩
theorem madeP_nil (w : World) :
    Calls Try.prog 150 #[.pointer none] w fun e w' => e = .returned (.bool false) ∧ w = w' := by
  go_enter Try.func150, Try.ntmps150
  go_wp2_with fail
  go_ret
  exact ⟨rfl, rfl⟩
set_option maxRecDepth 100000 in
theorem madeP_zero (w : World) (g : Nat) (ev pa no sq : Int) (m : Option Nat) (h : Blk w g 125 #[.int .i64 ev, .int .i64 pa, .int .i64 no, .int .i64 sq, .map none, .map m]) :
    Calls Try.prog 150 #[.pointer (some ⟨g, 0, none⟩)] w fun e w' => e = .returned (.bool false) ∧ w = w' := by
  have c1 : w.cell? ⟨g, 4, none⟩ = some (.map none) := h.cellv 4 rfl
  go_enter Try.func150, Try.ntmps150
  go_wp2_with fail
  go_ret
  exact ⟨rfl, rfl⟩
set_option maxRecDepth 100000 in
theorem newP_in (w : World) (ev pa : Int) (h1 : 1 ≤ ev) (h2 : ev ≤ 10000) (h3 : 1 ≤ pa) (h4 : pa ≤ ev) :
    Calls Try.prog 81 #[.int .i64 ev, .int .i64 pa] w fun e w' => ∃ g bn bw, e = .returned (.pointer (some ⟨g, 0, none⟩)) ∧ ProV w' g bn bw ev pa 0 0 (fun _ => none) (fun _ => none) ∧ w.heap.size ≤ g ∧ w.heap.size ≤ bn ∧ w.heap.size ≤ bw ∧ Below w.heap.size w w' := by
  have d1 : decide (ev < 1) = false := by simp; omega
  have d2 : decide (10000 < ev) = false := by simp; omega
  have d3 : decide (pa < 1) = false := by simp; omega
  have d4 : decide (ev < pa) = false := by simp; omega
  go_enter Try.func81, Try.ntmps81
  go_wp2_with fail
  go_ret
  refine ⟨w.heap.size + 1 + 1, w.heap.size, w.heap.size + 1, rfl, ⟨?_, ?_, ?_, by omega⟩, by omega, by omega, by omega, (((Below.refl _ _).alloc (Nat.le_refl _) _).alloc (by simp) _).alloc (by simp; omega) _⟩
  · have := Blk.new ((w.alloc (.map #[] 0)).alloc (.map #[] 0)) 125 #[.int .i64 ev, .int .i64 pa, .int .i64 0, .int .i64 0, .map (some w.heap.size), .map (some (w.heap.size + 1))]
    simpa using this
  · exact ((FMap.made w).nx ((Below.refl _ _).alloc (Nat.le_refl _) _)).nx ((Below.refl _ _).alloc (Nat.le_refl _) _)
  · have := (FMap.made (V := Int × Int) (enc := aV) (w.alloc (.map #[] 0)))
    rw [World.size_alloc] at this
    exact this.nx ((Below.refl _ _).alloc (Nat.le_refl _) _)
theorem newP_no (w : World) (ev pa : Int) (h : ev < 1 ∨ 10000 < ev ∨ pa < 1 ∨ ev < pa) :
    Calls Try.prog 81 #[.int .i64 ev, .int .i64 pa] w fun e w' => e = .returned (.pointer none) ∧ w = w' := by
  go_enter Try.func81, Try.ntmps81
  by_cases k1 : ev < 1
  · have d1 : decide (ev < 1) = true := by simpa using k1
    go_wp2_with fail
    go_ret
    exact ⟨rfl, rfl⟩
  have d1 : decide (ev < 1) = false := by simpa using k1
  by_cases k2 : 10000 < ev
  · have d2 : decide (10000 < ev) = true := by simpa using k2
    go_wp2_with fail
    go_ret
    exact ⟨rfl, rfl⟩
  have d2 : decide (10000 < ev) = false := by simpa using k2
  by_cases k3 : pa < 1
  · have d3 : decide (pa < 1) = true := by simpa using k3
    go_wp2_with fail
    go_ret
    exact ⟨rfl, rfl⟩
  have d3 : decide (pa < 1) = false := by simpa using k3
  have d4 : decide (ev < pa) = true := by simp; omega
  go_wp2_with fail
  go_ret
  exact ⟨rfl, rfl⟩
set_option maxRecDepth 100000 in
set_option maxHeartbeats 4000000 in
theorem addP_bad (w : World) (g bn bw : Nat) (ev pa no sq : Int) (fn : Int → Option Int) (fw : Int → Option (Int × Int)) (h : ProV w g bn bw ev pa no sq fn fw) (id : Int) (hid : id < 0 ∨ 255 < id) : Calls Try.prog 72 #[.pointer (some ⟨g, 0, none⟩), .int .i64 id] w fun e w' => e = .returned (.int .i64 9) ∧ w = w' := by
  have c0 : w.cell? ⟨g, 0, none⟩ = some (.int .i64 ev) := h.blk.cellv 0 rfl
  have c1 : w.cell? ⟨g, 1, none⟩ = some (.int .i64 pa) := h.blk.cellv 1 rfl
  have c2 : w.cell? ⟨g, 2, none⟩ = some (.int .i64 no) := h.blk.cellv 2 rfl
  have c3 : w.cell? ⟨g, 3, none⟩ = some (.int .i64 sq) := h.blk.cellv 3 rfl
  have c4 : w.cell? ⟨g, 4, none⟩ = some (.map (some bn)) := h.blk.cellv 4 rfl
  have c5 : w.cell? ⟨g, 5, none⟩ = some (.map (some bw)) := h.blk.cellv 5 rfl
  have ltg := h.blk.lt
  have gn := h.gn
  have gw := h.gw
  go_enter Try.func72, Try.ntmps72
  by_cases hl : id < 0
  · have t1 : decide (id < 0) = true := by simpa using hl
    go_wp2_with (go_at_call 150; refine (madeP_in h).mono ?_; rintro e w' ⟨rfl, rfl⟩)
    go_ret
    exact ⟨rfl, rfl⟩
  · have t1 : decide (id < 0) = false := by simpa using hl
    have t2 : decide (255 < id) = true := by simp; omega
    go_wp2_with (go_at_call 150; refine (madeP_in h).mono ?_; rintro e w' ⟨rfl, rfl⟩)
    go_ret
    exact ⟨rfl, rfl⟩
set_option maxRecDepth 100000 in
set_option maxHeartbeats 4000000 in
theorem addP_there (w : World) (g bn bw : Nat) (ev pa no sq : Int) (fn : Int → Option Int) (fw : Int → Option (Int × Int)) (h : ProV w g bn bw ev pa no sq fn fw) (id : Int) (hid : 0 ≤ id ∧ id ≤ 255) (v : Int) (hf : fn id = some v) : Calls Try.prog 72 #[.pointer (some ⟨g, 0, none⟩), .int .i64 id] w fun e w' => e = .returned (.int .i64 13) ∧ w = w' := by
  have c0 : w.cell? ⟨g, 0, none⟩ = some (.int .i64 ev) := h.blk.cellv 0 rfl
  have c1 : w.cell? ⟨g, 1, none⟩ = some (.int .i64 pa) := h.blk.cellv 1 rfl
  have c2 : w.cell? ⟨g, 2, none⟩ = some (.int .i64 no) := h.blk.cellv 2 rfl
  have c3 : w.cell? ⟨g, 3, none⟩ = some (.int .i64 sq) := h.blk.cellv 3 rfl
  have c4 : w.cell? ⟨g, 4, none⟩ = some (.map (some bn)) := h.blk.cellv 4 rfl
  have c5 : w.cell? ⟨g, 5, none⟩ = some (.map (some bw)) := h.blk.cellv 5 rfl
  have ltg := h.blk.lt
  have gn := h.gn
  have gw := h.gw
  have t1 : decide (id < 0) = false := by simp; omega
  have t2 : decide (255 < id) = false := by simp; omega
  have hlk : (Instr.lookup 122 (.map (some bn)) (.int .i64 id) true).run Try.prog w = .ok (.tuple #[.int .i64 v, .bool true]) w := h.en.hit1 nmap_und (by unfold IdIn; omega) hf
  go_enter Try.func72, Try.ntmps72
  go_wp2_with (go_at_call 150; refine (madeP_in h).mono ?_; rintro e w' ⟨rfl, rfl⟩)
  go_ret
  exact ⟨rfl, rfl⟩
set_option maxRecDepth 100000 in
set_option maxHeartbeats 4000000 in
theorem addP_new (w : World) (g bn bw : Nat) (ev pa no sq : Int) (fn : Int → Option Int) (fw : Int → Option (Int × Int)) (h : ProV w g bn bw ev pa no sq fn fw) (id : Int) (hid : 0 ≤ id ∧ id ≤ 255) (hno : 0 ≤ no ∧ no ≤ 1099511627776) (hf : fn id = none) : Calls Try.prog 72 #[.pointer (some ⟨g, 0, none⟩), .int .i64 id] w fun e w' => e = .returned (.int .i64 0) ∧ ProV w' g bn bw ev pa no sq (upd fn id (some (no + 1))) fw ∧ Chg w w' (fun k => k = bn) := by
  have c0 : w.cell? ⟨g, 0, none⟩ = some (.int .i64 ev) := h.blk.cellv 0 rfl
  have c1 : w.cell? ⟨g, 1, none⟩ = some (.int .i64 pa) := h.blk.cellv 1 rfl
  have c2 : w.cell? ⟨g, 2, none⟩ = some (.int .i64 no) := h.blk.cellv 2 rfl
  have c3 : w.cell? ⟨g, 3, none⟩ = some (.int .i64 sq) := h.blk.cellv 3 rfl
  have c4 : w.cell? ⟨g, 4, none⟩ = some (.map (some bn)) := h.blk.cellv 4 rfl
  have c5 : w.cell? ⟨g, 5, none⟩ = some (.map (some bw)) := h.blk.cellv 5 rfl
  have ltg := h.blk.lt
  have gn := h.gn
  have gw := h.gw
  have t1 : decide (id < 0) = false := by simp; omega
  have t2 : decide (255 < id) = false := by simp; omega
  have hlk : (Instr.lookup 122 (.map (some bn)) (.int .i64 id) true).run Try.prog w = .ok (.tuple #[.int .i64 0, .bool false]) w := h.en.miss1 nmap_und int_zero (by unfold IdIn; omega) hf
  go_enter Try.func72, Try.ntmps72
  have kw : IntKind.i64.wrap (no + 1) = no + 1 := IntWalk.i64_in _ (by omega)
  have hid2 : IdIn id := by unfold IdIn; omega
  go_upto_region 8 with (go_at_call 150; refine (madeP_in h).mono ?_; rintro e w' ⟨rfl, rfl⟩)
  -- region 8: 0 1 2 3 4 5 6 7 8 9 10M
  try refine wp_region_noPanic ?_
  have hs1r : w.grownBy w.drew (some bn) := grown_drew (grown_refl _ _)
  refine wp_region_held_drew (S := fun w' => w.grownBy w' (some bn)) (by kernel_rfl) hs1r (fun _ => ?_)
  (refine held_takeA 0 (by rfl) ?_ (by kernel_rfl) (fun _ _ _ h => h) hs1r ?_ ?_; rotate_left; (focus (intro wq hSw; have hrd : ∀ b' o, b' < w.heap.size → b' ≠ bn → wq.cell? ⟨b', o, none⟩ = w.cell? ⟨b', o, none⟩ := (fun b' o h hne => grown_cell hSw h hne); go_simp; try with_reducible rfl; done)); try simp only [Act.put, List.setIfInBounds_toArray, List.set_cons_zero, List.set_cons_succ])
  (refine held_takeA 1 (by rfl) ?_ (by kernel_rfl) (fun _ _ _ h => h) hs1r ?_ ?_; rotate_left; (focus (intro wq hSw; have hrd : ∀ b' o, b' < w.heap.size → b' ≠ bn → wq.cell? ⟨b', o, none⟩ = w.cell? ⟨b', o, none⟩ := (fun b' o h hne => grown_cell hSw h hne); go_simp; try with_reducible rfl; done)); try simp only [Act.put, List.setIfInBounds_toArray, List.set_cons_zero, List.set_cons_succ])
  (refine held_takeA 2 (by rfl) ?_ (by kernel_rfl) (fun _ _ _ h => h) hs1r ?_ ?_; rotate_left; (focus (intro wq hSw; have hrd : ∀ b' o, b' < w.heap.size → b' ≠ bn → wq.cell? ⟨b', o, none⟩ = w.cell? ⟨b', o, none⟩ := (fun b' o h hne => grown_cell hSw h hne); go_simp; try with_reducible rfl; done)); try simp only [Act.put, List.setIfInBounds_toArray, List.set_cons_zero, List.set_cons_succ])
  (refine held_takeA 3 (by rfl) ?_ (by kernel_rfl) (fun _ _ _ h => h) hs1r ?_ ?_; rotate_left; (focus (intro wq hSw; have hrd : ∀ b' o, b' < w.heap.size → b' ≠ bn → wq.cell? ⟨b', o, none⟩ = w.cell? ⟨b', o, none⟩ := (fun b' o h hne => grown_cell hSw h hne); go_simp; try with_reducible rfl; done)); try simp only [Act.put, List.setIfInBounds_toArray, List.set_cons_zero, List.set_cons_succ])
  (refine held_takeA 4 (by rfl) ?_ (by kernel_rfl) (fun _ _ _ h => h) hs1r ?_ ?_; rotate_left; (focus (intro wq hSw; have hrd : ∀ b' o, b' < w.heap.size → b' ≠ bn → wq.cell? ⟨b', o, none⟩ = w.cell? ⟨b', o, none⟩ := (fun b' o h hne => grown_cell hSw h hne); go_simp; try with_reducible rfl; done)); try simp only [Act.put, List.setIfInBounds_toArray, List.set_cons_zero, List.set_cons_succ])
  (refine held_takeA 5 (by rfl) ?_ (by kernel_rfl) (fun _ _ _ h => h) hs1r ?_ ?_; rotate_left; (focus (intro wq hSw; have hrd : ∀ b' o, b' < w.heap.size → b' ≠ bn → wq.cell? ⟨b', o, none⟩ = w.cell? ⟨b', o, none⟩ := (fun b' o h hne => grown_cell hSw h hne); go_simp; try with_reducible rfl; done)); try simp only [Act.put, List.setIfInBounds_toArray, List.set_cons_zero, List.set_cons_succ])
  (refine held_takeA 6 (by rfl) ?_ (by kernel_rfl) (fun _ _ _ h => h) hs1r ?_ ?_; rotate_left; (focus (intro wq hSw; have hrd : ∀ b' o, b' < w.heap.size → b' ≠ bn → wq.cell? ⟨b', o, none⟩ = w.cell? ⟨b', o, none⟩ := (fun b' o h hne => grown_cell hSw h hne); go_simp; try with_reducible rfl; done)); try simp only [Act.put, List.setIfInBounds_toArray, List.set_cons_zero, List.set_cons_succ])
  (refine held_takeA 7 (by rfl) ?_ (by kernel_rfl) (fun _ _ _ h => h) hs1r ?_ ?_; rotate_left; (focus (intro wq hSw; have hrd : ∀ b' o, b' < w.heap.size → b' ≠ bn → wq.cell? ⟨b', o, none⟩ = w.cell? ⟨b', o, none⟩ := (fun b' o h hne => grown_cell hSw h hne); go_simp; try with_reducible rfl; done)); try simp only [Act.put, List.setIfInBounds_toArray, List.set_cons_zero, List.set_cons_succ])
  (refine held_takeA 8 (by rfl) ?_ (by kernel_rfl) (fun _ _ _ h => h) hs1r ?_ ?_; rotate_left; (focus (intro wq hSw; have hrd : ∀ b' o, b' < w.heap.size → b' ≠ bn → wq.cell? ⟨b', o, none⟩ = w.cell? ⟨b', o, none⟩ := (fun b' o h hne => grown_cell hSw h hne); go_simp; try with_reducible rfl; done)); try simp only [Act.put, List.setIfInBounds_toArray, List.set_cons_zero, List.set_cons_succ])
  (refine held_takeA 9 (by rfl) ?_ (by kernel_rfl) (fun _ _ _ h => h) hs1r ?_ ?_; rotate_left; (focus (intro wq hSw; have hrd : ∀ b' o, b' < w.heap.size → b' ≠ bn → wq.cell? ⟨b', o, none⟩ = w.cell? ⟨b', o, none⟩ := (fun b' o h hne => grown_cell hSw h hne); go_simp; try with_reducible rfl; done)); try simp only [Act.put, List.setIfInBounds_toArray, List.set_cons_zero, List.set_cons_succ])
  refine held_callA 10 (by rfl) (by kernel_rfl) (by rfl) (fun KQ hKQ => ?_)
  refine wp_fput (show FMap nV w.drew bn fn from h.en) nmap_und hid2 (.tmp 31) (.tmp 32) (.tmp 37) (by rfl) (by rfl) (by rfl) (by rfl) ?_
  intro w4 he4 hg4
  refine hKQ.out _ _ (grown_trans hs1r hg4) (held_mono (S' := fun w' => w4.grownBy w' (some bn)) (fun w' h => grown_trans (grown_trans hs1r hg4) h) _ _ _ _ ?_)
  clear hKQ KQ
  have hs2r : w4.grownBy w4 (some bn) := grown_refl _ _
  try simp only [Act.put]
  refine wpAnyH_done (by kernel_rfl) ?_ _
  try refine NoPanic.normal ?_
  go_wp2_with fail
  go_ret
  have hg5 : w.grownBy w4 (some bn) := grown_trans (grown_drew (grown_refl w (some bn))) hg4
  have hC := Chg.of_grown (X := fun k => k = bn) hg5 rfl
  exact ⟨rfl, ⟨hC.blk h.blk h.gn, he4, h.ew.chg hC (fun e => h.ne e.symm), h.ne⟩, hC⟩
end Go.Proofs.Ytejgekoinbdhjaa
