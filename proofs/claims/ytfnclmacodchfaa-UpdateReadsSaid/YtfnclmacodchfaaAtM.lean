/- attr: what is done with an attribute's value. -/
import Derived.Test.YtfnclmacodchfaaAtL
import Derived.Test.YtfnclmacodchfaaAtF
import Derived.StillTailTactics
namespace Go.Proofs.Ytfnclmacodchfaa
set_option linter.unusedVariables false
open Go.RowKit

/-- attributes in memory. -/
def attC (o : Int) (A : Option Addr) (n c : Nat) (h m : Int) (b : Bool) : Array Value := #[.int .i64 o, .slice A n c, .int .u32 h, .int .i64 m, .bool b]
def sub1 (v : List UInt8) : Int := if 2 < byAt v 0 then 6 else 0
def sub3 (v : List UInt8) : Int := if hopV (getN v 4) = true then 0 else 8
theorem getV_all (v : List UInt8) (k : Nat) (h : v.length = k) : getV v 0 k = getN v k := by
  unfold getV
  rw [if_pos ((fitsB_iff _ _ _).2 ⟨by omega, by omega⟩)]
  rfl
set_option maxRecDepth 100000 in
set_option maxHeartbeats 2000000 in
theorem take1_any (w : World) (g gb : Nat) (o : Int) (A : Option Addr) (n c : Nat) (h m : Int) (b : Bool) (V : Option Addr) (vc : Nat) (v : List UInt8) (hq : Blk w g 26 (attC o A n c h m b)) (hbx : Blk w gb 139 #[.pointer (some ⟨g, 0, none⟩)]) (hv : Byt w w.heap.size V 1 v) (hvc : 1 ≤ vc) (hvm : vc ≤ maxLen) (hne : gb ≠ g) :
    Calls Try.prog 108 #[.slice V 1 vc, .pointer (some ⟨gb, 0, none⟩)] w fun e w' => e = .returned (.int .i64 (sub1 v)) ∧ Blk w' g 26 (attC (byAt v 0) A n c h m b) ∧ w.grownBy w' (some g) := by
  unfold attC at hq
  have lt1 := hq.lt
  have lt2 := hbx.lt
  have p0 : w.cell? ⟨gb, 0, none⟩ = some (.pointer (some ⟨g, 0, none⟩)) := hbx.cellv 0 rfl
  have hl := Lib.hid hv.1
  obtain ⟨vb, vo, rfl, hvb, hvcell⟩ := hv.2 (by omega)
  have pv : w.cell? ⟨vb, vo, none⟩ = some (.int .u8 (byAt v 0)) := by have := hvcell 0 (by omega); simpa using this
  have y0 := byAt_lo v 0
  have y1 := byAt_hi v 0
  have c0 : w.cell? ⟨g, 0, none⟩ = some (.int .i64 o) := hq.cellv 0 rfl
  have fz := hq.frozen 0
  obtain ⟨hq2, hg2⟩ := blk_store hq 0 (.int .i64 (byAt v 0))
  replace hq2 : Blk (w.setCell ⟨g, 0, none⟩ (.int .i64 (byAt v 0))).drew g 26 (attC (byAt v 0) A n c h m b) := hq2
  replace hg2 : w.grownBy (w.setCell ⟨g, 0, none⟩ (.int .i64 (byAt v 0))).drew (some g) := grown_drew hg2
  replace hq2 := Lib.hid hq2
  have ltx := Lib.hid hg2.size
  replace hg2 := Lib.hid hg2
  clear hvcell hv hq
  go_enter Try.func108, Try.ntmps108
  go_wp2_with fail
  go_region
  clear c0
  generalize (w.setCell ⟨g, 0, none⟩ (.int .i64 (byAt v 0))).drew = w1 at *
  have lt3 : gb < w1.heap.size := by have := ltx.out; omega
  have lt4 : g < w1.heap.size := by have := ltx.out; omega
  have q0 : w1.cell? ⟨gb, 0, none⟩ = some (.pointer (some ⟨g, 0, none⟩)) := (hbx.grown hg2.out (by intro e; injection e with e; exact hne e)).cellv 0 rfl
  clear p0 fz
  have d0 : w1.cell? ⟨g, 0, none⟩ = some (.int .i64 (byAt v 0)) := hq2.out.cellv 0 rfl
  have fd0 := hq2.out.frozen 0
  by_cases h2 : 2 < byAt v 0
  · have hs : sub1 v = 6 := if_pos h2
    replace hs := Lib.hid hs
    go_wp2_with fail
    go_ret
    exact ⟨ret_int hs.out.symm, hq2.out, hg2.out⟩
  · have h3 : byAt v 0 ≤ 2 := by omega
    have hs : sub1 v = 0 := if_neg h2
    replace hs := Lib.hid hs
    go_wp2_with fail
    go_ret
    exact ⟨ret_int hs.out.symm, hq2.out, hg2.out⟩
set_option maxRecDepth 100000 in
set_option maxHeartbeats 2000000 in
theorem take3_any (w : World) (g gb : Nat) (o : Int) (A : Option Addr) (n c : Nat) (h m : Int) (b : Bool) (V : Option Addr) (vc : Nat) (v : List UInt8) (hq : Blk w g 26 (attC o A n c h m b)) (hbx : Blk w gb 139 #[.pointer (some ⟨g, 0, none⟩)]) (hv : Byt w w.heap.size V 4 v) (hvc : 4 ≤ vc) (hvm : vc ≤ maxLen) (hne : gb ≠ g) :
    Calls Try.prog 111 #[.slice V 4 vc, .pointer (some ⟨gb, 0, none⟩)] w fun e w' => e = .returned (.int .i64 (sub3 v)) ∧ Blk w' g 26 (attC o A n c (getN v 4) m b) ∧ w.grownBy w' (some g) := by
  unfold attC at hq
  have lt1 := hq.lt
  have lt2 := hbx.lt
  have p0 : w.cell? ⟨gb, 0, none⟩ = some (.pointer (some ⟨g, 0, none⟩)) := hbx.cellv 0 rfl
  have hl := Lib.hid hv.1
  have c2 : w.cell? ⟨g, 2, none⟩ = some (.int .u32 h) := hq.cellv 2 rfl
  have fz := hq.frozen 2
  obtain ⟨hq2, hg2⟩ := blk_store hq 2 (.int .u32 (getN v 4))
  replace hq2 : Blk (w.setCell ⟨g, 2, none⟩ (.int .u32 (getN v 4))).drew g 26 (attC o A n c (getN v 4) m b) := hq2
  replace hg2 : w.grownBy (w.setCell ⟨g, 2, none⟩ (.int .u32 (getN v 4))).drew (some g) := grown_drew hg2
  replace hq2 := Lib.hid hq2
  have ltx := Lib.hid hg2.size
  replace hg2 := Lib.hid hg2
  clear hq
  have n0 := getN_lo v 4
  have n1 := getN_4 v 4 (Nat.le_refl _)
  have hgv := Lib.hid (getV_all v 4 hl.out)
  have hfit := Lib.hid ((fitsB_iff 4 0 4).2 ⟨by omega, by omega⟩)
  go_enter Try.func111, Try.ntmps111
  go_wp2_with fail
  -- region 1: 0 1 2C 3 4 5 6 7 8M
  try refine wp_region_noPanic ?_
  have hs1r : w.grownBy w.drew (some g) := grown_drew (grown_refl _ _)
  refine wp_region_held_drew (S := fun w' => w.grownBy w' (some g)) (by kernel_rfl) hs1r (fun _ => ?_)
  (refine held_takeA 0 (by rfl) ?_ (by kernel_rfl) (fun _ _ _ h => h) hs1r ?_ ?_; rotate_left; (focus (intro wq hSw; have hrd : ∀ b' o, b' < w.heap.size → b' ≠ g → wq.cell? ⟨b', o, none⟩ = w.cell? ⟨b', o, none⟩ := (fun b' o h hne => grown_cell hSw h hne); go_simp; try with_reducible rfl; done)); try simp only [Act.put, List.setIfInBounds_toArray, List.set_cons_zero, List.set_cons_succ])
  (refine held_takeA 1 (by rfl) ?_ (by kernel_rfl) (fun _ _ _ h => h) hs1r ?_ ?_; rotate_left; (focus (intro wq hSw; have hrd : ∀ b' o, b' < w.heap.size → b' ≠ g → wq.cell? ⟨b', o, none⟩ = w.cell? ⟨b', o, none⟩ := (fun b' o h hne => grown_cell hSw h hne); go_simp; try with_reducible rfl; done)); try simp only [Act.put, List.setIfInBounds_toArray, List.set_cons_zero, List.set_cons_succ])
  refine held_callA 2 (by rfl) (by kernel_rfl) (by rfl) (fun KQ hKQ => ?_)
  go_simp
  refine (get32_any w.drew V 4 vc v _ hv.drew hvc hvm 0 (by omega)).mono ?_
  rintro e w' ⟨rfl, rfl⟩
  rw [hgv.out]
  have hs2r := hs1r
  refine hKQ.out _ _ hs2r ?_
  clear hKQ KQ
  try simp only [Act.put, List.setIfInBounds_toArray, List.set_cons_zero, List.set_cons_succ]
  (refine held_takeA 3 (by rfl) ?_ (by kernel_rfl) (fun _ _ _ h => h) hs2r ?_ ?_; rotate_left; (focus (intro wq hSw; have hrd : ∀ b' o, b' < w.heap.size → b' ≠ g → wq.cell? ⟨b', o, none⟩ = w.cell? ⟨b', o, none⟩ := (fun b' o h hne => grown_cell hSw h hne); go_simp; try with_reducible rfl; done)); try simp only [Act.put, List.setIfInBounds_toArray, List.set_cons_zero, List.set_cons_succ])
  (refine held_takeA 4 (by rfl) ?_ (by kernel_rfl) (fun _ _ _ h => h) hs2r ?_ ?_; rotate_left; (focus (intro wq hSw; have hrd : ∀ b' o, b' < w.heap.size → b' ≠ g → wq.cell? ⟨b', o, none⟩ = w.cell? ⟨b', o, none⟩ := (fun b' o h hne => grown_cell hSw h hne); go_simp; try with_reducible rfl; done)); try simp only [Act.put, List.setIfInBounds_toArray, List.set_cons_zero, List.set_cons_succ])
  (refine held_takeA 5 (by rfl) ?_ (by kernel_rfl) (fun _ _ _ h => h) hs2r ?_ ?_; rotate_left; (focus (intro wq hSw; have hrd : ∀ b' o, b' < w.heap.size → b' ≠ g → wq.cell? ⟨b', o, none⟩ = w.cell? ⟨b', o, none⟩ := (fun b' o h hne => grown_cell hSw h hne); go_simp; try with_reducible rfl; done)); try simp only [Act.put, List.setIfInBounds_toArray, List.set_cons_zero, List.set_cons_succ])
  (refine held_takeA 6 (by rfl) ?_ (by kernel_rfl) (fun _ _ _ h => h) hs2r ?_ ?_; rotate_left; (focus (intro wq hSw; have hrd : ∀ b' o, b' < w.heap.size → b' ≠ g → wq.cell? ⟨b', o, none⟩ = w.cell? ⟨b', o, none⟩ := (fun b' o h hne => grown_cell hSw h hne); go_simp; try with_reducible rfl; done)); try simp only [Act.put, List.setIfInBounds_toArray, List.set_cons_zero, List.set_cons_succ])
  (refine held_takeA 7 (by rfl) ?_ (by kernel_rfl) (fun _ _ _ h => h) hs2r ?_ ?_; rotate_left; (focus (intro wq hSw; have hrd : ∀ b' o, b' < w.heap.size → b' ≠ g → wq.cell? ⟨b', o, none⟩ = w.cell? ⟨b', o, none⟩ := (fun b' o h hne => grown_cell hSw h hne); go_simp; try with_reducible rfl; done)); try simp only [Act.put, List.setIfInBounds_toArray, List.set_cons_zero, List.set_cons_succ])
  refine held_callA 8 (by rfl) (by kernel_rfl) (by rfl) (fun KQ hKQ => ?_)
  go_simp
  generalize (w.setCell ⟨g, 2, none⟩ (.int .u32 (getN v 4))).drew = w1 at *
  have hs3r := hg2.out
  refine hKQ.out _ _ hs3r ?_
  clear hKQ KQ
  try simp only [Act.put]
  refine wpAnyH_done (by kernel_rfl) ?_ _
  try refine NoPanic.normal ?_
  clear c2
  have lt3 : gb < w1.heap.size := by have := ltx.out; omega
  have lt4 : g < w1.heap.size := by have := ltx.out; omega
  have q0 : w1.cell? ⟨gb, 0, none⟩ = some (.pointer (some ⟨g, 0, none⟩)) := (hbx.grown hg2.out (by intro e; injection e with e; exact hne e)).cellv 0 rfl
  clear p0 fz
  have d2 : w1.cell? ⟨g, 2, none⟩ = some (.int .u32 (getN v 4)) := hq2.out.cellv 2 rfl
  have fd2 := hq2.out.frozen 2
  go_wp2_with fail
  refine (hop_any (getN v 4) w1 n0 n1).mono ?_
  rintro e w2 ⟨rfl, rfl⟩
  cases hh : hopV (getN v 4)
  · have hs : sub3 v = 8 := by unfold sub3; rw [hh]; rfl
    replace hs := Lib.hid hs
    go_wp2_with fail
    go_ret
    exact ⟨ret_int hs.out.symm, hq2.out, hg2.out⟩
  · have hs : sub3 v = 0 := by unfold sub3; rw [hh]; rfl
    replace hs := Lib.hid hs
    go_wp2_with fail
    go_ret
    exact ⟨ret_int hs.out.symm, hq2.out, hg2.out⟩
set_option maxRecDepth 100000 in
set_option maxHeartbeats 2000000 in
theorem take4_any (w : World) (g gb : Nat) (o : Int) (A : Option Addr) (n c : Nat) (h m : Int) (b : Bool) (V : Option Addr) (vc : Nat) (v : List UInt8) (hq : Blk w g 26 (attC o A n c h m b)) (hbx : Blk w gb 139 #[.pointer (some ⟨g, 0, none⟩)]) (hv : Byt w w.heap.size V 4 v) (hvc : 4 ≤ vc) (hvm : vc ≤ maxLen) (hne : gb ≠ g) :
    Calls Try.prog 112 #[.slice V 4 vc, .pointer (some ⟨gb, 0, none⟩)] w fun e w' => e = .returned (.int .i64 0) ∧ Blk w' g 26 (attC o A n c h (getN v 4) true) ∧ w.grownBy w' (some g) := by
  unfold attC at hq
  have lt1 := hq.lt
  have lt2 := hbx.lt
  have p0 : w.cell? ⟨gb, 0, none⟩ = some (.pointer (some ⟨g, 0, none⟩)) := hbx.cellv 0 rfl
  have hl := Lib.hid hv.1
  have n0 := getN_lo v 4
  have n1 := getN_4 v 4 (Nat.le_refl _)
  have hgv := Lib.hid (getV_all v 4 hl.out)
  have c3 : w.cell? ⟨g, 3, none⟩ = some (.int .i64 m) := hq.cellv 3 rfl
  have c4 : w.cell? ⟨g, 4, none⟩ = some (.bool b) := hq.cellv 4 rfl
  have fz := hq.frozen 3
  have fz4 := hq.frozen 4
  obtain ⟨hq1, hg1⟩ := blk_store hq 3 (.int .i64 (getN v 4))
  obtain ⟨hq2, hg2⟩ := blk_store hq1 4 (.bool true)
  replace hg2 := grown_trans hg1 hg2
  replace hq2 : Blk ((w.setCell ⟨g, 3, none⟩ (.int .i64 (getN v 4))).setCell ⟨g, 4, none⟩ (.bool true)).drew g 26 (attC o A n c h (getN v 4) true) := hq2
  replace hg2 : w.grownBy ((w.setCell ⟨g, 3, none⟩ (.int .i64 (getN v 4))).setCell ⟨g, 4, none⟩ (.bool true)).drew (some g) := grown_drew hg2
  replace hq2 := Lib.hid hq2
  replace hg2 := Lib.hid hg2
  clear hq hq1 hg1
  go_enter Try.func112, Try.ntmps112
  go_wp2_with fail
  refine (get32_any w V 4 vc v _ hv hvc hvm 0 (by omega)).mono ?_
  rintro e w' ⟨rfl, rfl⟩
  rw [hgv.out]
  go_wp2_with fail
  go_region
  go_wp2_with fail
  go_ret
  exact ⟨rfl, hq2.out, hg2.out⟩
/-- what taking a path answers. -/
def P2 (w w' : World) (g : Nat) (o h m : Int) (b : Bool) (e : Ending) : Option (List Int) → Prop
  | none => e = .returned (.int .i64 11)
  | some zs => e = .returned (.int .i64 0) ∧ ∃ A n c, Blk w' g 26 (attC o A n c h m b) ∧ Seen intK w' (fun b => w.heap.size ≤ b ∧ b < w'.heap.size) A n zs
set_option maxRecDepth 100000 in
set_option maxHeartbeats 2000000 in
theorem take2_any (w : World) (g gb : Nat) (o : Int) (A : Option Addr) (n c : Nat) (h m : Int) (b : Bool) (V : Option Addr) (k vc : Nat) (v : List UInt8) (hq : Blk w g 26 (attC o A n c h m b)) (hbx : Blk w gb 139 #[.pointer (some ⟨g, 0, none⟩)]) (hv : Byt w w.heap.size V k v) (hk : k ≤ 10000000) (hne : gb ≠ g) :
    Calls Try.prog 109 #[.slice V k vc, .pointer (some ⟨gb, 0, none⟩)] w fun e w' => w.grownBy w' (some g) ∧ P2 w w' g o h m b e (pathP ⟨v, 0, 0⟩ []) := by
  unfold attC at hq
  have hgw := hq.lt
  go_enter Try.func109, Try.ntmps109
  go_wp2_with fail
  refine (path_any w V k vc v hv hk).mono ?_
  rintro e w1 ⟨hb, hP⟩
  have hg1 := grown_of hb (Nat.le_refl _) (some g)
  replace hq := hq.below hb hq.lt
  replace hbx := hbx.below hb hbx.lt
  have hsz := hb.size
  cases hp : pathP ⟨v, 0, 0⟩ [] with
  | none =>
    rw [hp] at hP
    obtain ⟨u, rfl⟩ := hP
    replace hp := Lib.hid hp
    go_wp2_with fail
    go_ret
    exact ⟨hg1, by rw [hp.out]; rfl⟩
  | some zs =>
    rw [hp] at hP
    obtain ⟨u, rfl, hrow⟩ := hP
    obtain ⟨X, q, rfl, _, _, hS⟩ := hrow.seen (Nat.le_refl _)
    have lt1 := hq.lt
    have lt2 := hbx.lt
    have p0 : w1.cell? ⟨gb, 0, none⟩ = some (.pointer (some ⟨g, 0, none⟩)) := hbx.cellv 0 rfl
    have c1 : w1.cell? ⟨g, 1, none⟩ = some (.slice A n c) := hq.cellv 1 rfl
    have fz := hq.frozen 1
    obtain ⟨hq2, hg2⟩ := blk_store hq 1 (.slice X zs.length q)
    replace hq2 : Blk (w1.setCell ⟨g, 1, none⟩ (.slice X zs.length q)) g 26 (attC o X zs.length q h m b) := hq2
    replace hS := hS.grown hg2 (fun b hb => ⟨hb.2, by intro e; injection e with e; omega⟩)
    have hsz2 := hg2.size
    replace hg2 := grown_trans hg1 hg2
    replace hS := hS.more (S' := fun b => w.heap.size ≤ b ∧ b < (w1.setCell ⟨g, 1, none⟩ (.slice X zs.length q)).heap.size) (fun b hb => ⟨hb.1, by omega⟩)
    generalize hw2 : w1.setCell ⟨g, 1, none⟩ (.slice X zs.length q) = w2 at *
    replace hp := Lib.hid hp
    replace hq2 := Lib.hid hq2
    clear hq hrow hg1
    go_wp2_with fail
    go_ret
    exact ⟨hg2, by rw [hp.out]; exact ⟨rfl, X, _, q, hq2.out, hS⟩⟩
structure AttV where
  o : Int
  zs : List Int
  h : Int
  m : Int
  b : Bool
/-- block g is these attributes, the path's memory in blocks from L on. -/
def AttIn (w : World) (L g : Nat) (a : AttV) : Prop := ∃ A n c, Blk w g 26 (attC a.o A n c a.h a.m a.b) ∧ Seen intK w (fun b => L ≤ b ∧ b < w.heap.size) A n a.zs
section
variable {w w' : World} {L g : Nat} {a : AttV}
theorem AttIn.lt (h : AttIn w L g a) : g < w.heap.size := by obtain ⟨A, n, c, h1, _⟩ := h; exact h1.lt
theorem AttIn.below (h : AttIn w L g a) (hb : Below w.heap.size w w') : AttIn w' L g a := by
  obtain ⟨A, n, c, h1, h2⟩ := h
  exact ⟨A, n, c, h1.below hb h1.lt, (h2.below hb fun _ h => h.2).more fun b hb' => ⟨hb'.1, Nat.lt_of_lt_of_le hb'.2 hb.size⟩⟩
theorem AttIn.kept {k : Nat} (h : AttIn w L g a) (hg : w.grownBy w' (some k)) (hk : k < L) (hkg : k ≠ g) : AttIn w' L g a := by
  obtain ⟨A, n, c, h1, h2⟩ := h
  exact ⟨A, n, c, h1.grown hg (by intro e; injection e with e; exact hkg e.symm), (h2.grown hg fun b hb => ⟨hb.2, by intro e; injection e with e; omega⟩).more fun b hb' => ⟨hb'.1, Nat.lt_of_lt_of_le hb'.2 hg.size⟩⟩
end
def baseF (f : Int) : Int := bits .andNot .i64 f 16
def optB (f : Int) : Bool := !(bits .and .i64 f 128 == 0)
/-- what taking an attribute makes of others, or a fault's Sub. -/
def takeS (a : AttV) (f t : Int) (v : List UInt8) : Except Int AttV :=
  if t = 1 then (if baseF f ≠ 64 then .error 4 else if v.length ≠ 1 then .error 5 else if 2 < byAt v 0 then .error 6 else .ok { a with o := byAt v 0 })
  else if t = 2 then (if baseF f ≠ 64 then .error 4 else match pathP ⟨v, 0, 0⟩ [] with
    | none => .error 11
    | some zs => .ok { a with zs := zs })
  else if t = 3 then (if baseF f ≠ 64 then .error 4 else if v.length ≠ 4 then .error 5 else if hopV (getN v 4) = false then .error 8 else .ok { a with h := getN v 4 })
  else if t = 4 then (if baseF f ≠ 128 then .error 4 else if v.length ≠ 4 then .error 5 else .ok { a with m := getN v 4, b := true })
  else if optB f = false then .error 2 else .ok a
def TakeP (w' : World) (L g : Nat) (e : Ending) : Except Int AttV → Prop
  | .error x => e = .returned (.int .i64 x) ∧ x ≠ 0
  | .ok a => e = .returned (.int .i64 0) ∧ AttIn w' L g a
end Go.Proofs.Ytfnclmacodchfaa
