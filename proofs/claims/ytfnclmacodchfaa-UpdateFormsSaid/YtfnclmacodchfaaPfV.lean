/- update: UpdateForms, the walk. -/
import Derived.Test.YtfnclmacodchfaaPfU
import Derived.Test.YtfnclmacodchfaaPfO2
import Derived.Test.YtfnclmacodchfaaLate
namespace Go.Proofs.Ytfnclmacodchfaa
set_option linter.unusedVariables false
open Go Go.RowKit

set_option maxRecDepth 100000 in
set_option maxHeartbeats 16000000 in
theorem forms9_walk (A1 : Option Addr) (n1 c1 : Nat) (l1 : List (Int × Int)) (o : Int) (A : Option Addr) (n c : Nat) (zs : List Int) (h m : Int) (b : Bool) (A2 : Option Addr) (n2 c2 : Nat) (l2 : List (Int × Int)) (A1' : Option Addr) (n1' c1' : Nat) (l1' : List (Int × Int)) (o' : Int) (A' : Option Addr) (n' c' : Nat) (zs' : List Int) (h' m' : Int) (b' : Bool) (A2' : Option Addr) (n2' c2' : Nat) (l2' : List (Int × Int)) (w : World) (_ : n1 ≤ c1) (_ : c1 ≤ maxLen) (hs1 : Seen pfK w (fun b => b < w.heap.size) A1 n1 l1) (_ : (Lit.int .i64 o).wf = true) (_ : n ≤ c) (_ : c ≤ maxLen) (hN : Nums .i64 w w.heap.size A n zs) (hh : (Lit.int .u32 h).wf = true) (_ : (Lit.int .i64 m).wf = true) (_ : n2 ≤ c2) (_ : c2 ≤ maxLen) (hs2 : Seen pfK w (fun b => b < w.heap.size) A2 n2 l2) (_ : n1' ≤ c1') (_ : c1' ≤ maxLen) (hs1' : Seen pfK w (fun b => b < w.heap.size) A1' n1' l1') (_ : (Lit.int .i64 o').wf = true) (_ : n' ≤ c') (_ : c' ≤ maxLen) (hN' : Nums .i64 w w.heap.size A' n' zs') (hh' : (Lit.int .u32 h').wf = true) (_ : (Lit.int .i64 m').wf = true) (_ : n2' ≤ c2') (_ : c2' ≤ maxLen) (hs2' : Seen pfK w (fun b => b < w.heap.size) A2' n2' l2') :
    Calls Try.prog 3 #[.agg #[.slice A1 n1 c1, .int .i64 o, .slice A n c, .int .u32 h, .int .i64 m, .bool b, .slice A2 n2 c2], .agg #[.slice A1' n1' c1', .int .i64 o', .slice A' n' c', .int .u32 h', .int .i64 m', .bool b', .slice A2' n2' c2']] w fun e w' => e = .returned (.bool true) ∧ Below w.heap.size w w' := by
  have u : UpR w A1 n1 l1 A n zs h A2 n2 l2 := ⟨hs1, hs2, hN, (bounds_u32 hh).1, by have := (bounds_u32 hh).2; omega⟩
  have u' : UpR w A1' n1' l1' A' n' zs' h' A2' n2' l2' := ⟨hs1', hs2', hN', (bounds_u32 hh').1, by have := (bounds_u32 hh').2; omega⟩
  clear hs1 hs2 hN hs1' hs2' hN'
  have hB := ((Below.refl w.heap.size w).alloc (Nat.le_refl _) (.cells #[.slice A1 n1 c1, .int .i64 o, .slice A n c, .int .u32 h, .int .i64 m, .bool b, .slice A2 n2 c2] 28)).alloc (by simp) (.cells #[.slice A1' n1' c1', .int .i64 o', .slice A' n' c', .int .u32 h', .int .i64 m', .bool b', .slice A2' n2' c2'] 28)
  have hq := (Blk.new w 28 #[.slice A1 n1 c1, .int .i64 o, .slice A n c, .int .u32 h, .int .i64 m, .bool b, .slice A2 n2 c2]).alloc (.cells #[.slice A1' n1' c1', .int .i64 o', .slice A' n' c', .int .u32 h', .int .i64 m', .bool b', .slice A2' n2' c2'] 28)
  have hq' : Blk ((w.alloc (.cells #[.slice A1 n1 c1, .int .i64 o, .slice A n c, .int .u32 h, .int .i64 m, .bool b, .slice A2 n2 c2] 28)).alloc (.cells #[.slice A1' n1' c1', .int .i64 o', .slice A' n' c', .int .u32 h', .int .i64 m', .bool b', .slice A2' n2' c2'] 28)) (w.heap.size + 1) 28 #[.slice A1' n1' c1', .int .i64 o', .slice A' n' c', .int .u32 h', .int .i64 m', .bool b', .slice A2' n2' c2'] := by
    have := Blk.new (w.alloc (.cells #[.slice A1 n1 c1, .int .i64 o, .slice A n c, .int .u32 h, .int .i64 m, .bool b, .slice A2 n2 c2] 28)) 28 #[.slice A1' n1' c1', .int .i64 o', .slice A' n' c', .int .u32 h', .int .i64 m', .bool b', .slice A2' n2' c2']
    simpa using this
  replace u := u.nx hB
  replace u' := u'.nx hB
  go_enter Try.func3, Try.ntmps3
  go_wp2_with fail
  refine (light9_any _ A1 n1 c1 o A n c h m b A2 n2 c2).mono ?_
  rintro e w1 ⟨rfl, hb⟩
  replace hq := hq.below hb hq.lt
  replace hq' := hq'.below hb hq'.lt
  replace hB := hB.trans (hb.mono hB.size)
  replace u := u.nx hb
  replace u' := u'.nx hb
  clear hb
  cases hx : lightU n1 n2 n
  · replace hx := Lib.hid hx
    go_wp2_with fail
    refine (lives9_any _).mono ?_
    rintro e w2 ⟨rfl, hb⟩
    go_wp2_with fail
    go_ret
    exact ⟨rfl, hB.trans (hb.mono hB.size)⟩
  have hn : n1 ≤ 2000 ∧ n2 ≤ 2000 ∧ n ≤ 300 := by unfold lightU at hx; exact of_decide_eq_true hx
  replace hx := Lib.hid hx
  clear hx
  have p0 : w1.cell? ⟨w.heap.size + 1, 0, none⟩ = some (.slice A1' n1' c1') := hq'.cellv 0 rfl
  have p1 : w1.cell? ⟨w.heap.size + 1, 1, none⟩ = some (.int .i64 o') := hq'.cellv 1 rfl
  have p2 : w1.cell? ⟨w.heap.size + 1, 2, none⟩ = some (.slice A' n' c') := hq'.cellv 2 rfl
  have p3 : w1.cell? ⟨w.heap.size + 1, 3, none⟩ = some (.int .u32 h') := hq'.cellv 3 rfl
  have p4 : w1.cell? ⟨w.heap.size + 1, 4, none⟩ = some (.int .i64 m') := hq'.cellv 4 rfl
  have p5 : w1.cell? ⟨w.heap.size + 1, 5, none⟩ = some (.bool b') := hq'.cellv 5 rfl
  have p6 : w1.cell? ⟨w.heap.size + 1, 6, none⟩ = some (.slice A2' n2' c2') := hq'.cellv 6 rfl
  have pl := hq'.lt
  go_wp2_with fail
  refine (light9_any _ A1' n1' c1' o' A' n' c' h' m' b' A2' n2' c2').mono ?_
  rintro e w2 ⟨rfl, hb⟩
  replace hq := hq.below hb hq.lt
  replace hq' := hq'.below hb hq'.lt
  replace hB := hB.trans (hb.mono hB.size)
  replace u := u.nx hb
  replace u' := u'.nx hb
  clear hb p0 p1 p2 p3 p4 p5 p6 pl
  cases hx : lightU n1' n2' n'
  · replace hx := Lib.hid hx
    go_wp2_with fail
    refine (lives9_any _).mono ?_
    rintro e w2 ⟨rfl, hb⟩
    go_wp2_with fail
    go_ret
    exact ⟨rfl, hB.trans (hb.mono hB.size)⟩
  have hn' : n1' ≤ 2000 ∧ n2' ≤ 2000 ∧ n' ≤ 300 := by unfold lightU at hx; exact of_decide_eq_true hx
  clear hx
  have q0 : w2.cell? ⟨w.heap.size, 0, none⟩ = some (.slice A1 n1 c1) := hq.cellv 0 rfl
  have q1 : w2.cell? ⟨w.heap.size, 1, none⟩ = some (.int .i64 o) := hq.cellv 1 rfl
  have q2 : w2.cell? ⟨w.heap.size, 2, none⟩ = some (.slice A n c) := hq.cellv 2 rfl
  have q3 : w2.cell? ⟨w.heap.size, 3, none⟩ = some (.int .u32 h) := hq.cellv 3 rfl
  have q4 : w2.cell? ⟨w.heap.size, 4, none⟩ = some (.int .i64 m) := hq.cellv 4 rfl
  have q5 : w2.cell? ⟨w.heap.size, 5, none⟩ = some (.bool b) := hq.cellv 5 rfl
  have q6 : w2.cell? ⟨w.heap.size, 6, none⟩ = some (.slice A2 n2 c2) := hq.cellv 6 rfl
  have ql := hq.lt
  go_upto_region 4 with (go_at_call 9; refine (plain9_any w2 A1 n1 c1 o A n c h m b A2 n2 c2).mono ?_; rintro e w3 ⟨rfl, hb⟩)
  clear q0 q1 q2 q3 q4 q5 q6 ql
  replace hq := hq.below hb hq.lt
  replace hq' := hq'.below hb hq'.lt
  replace hB := hB.trans (hb.mono hB.size)
  replace u := u.nx hb
  replace u' := u'.nx hb
  clear hb
  have hb := (Below.refl w3.heap.size w3).alloc (Nat.le_refl _) (.cells #[.slice A1 n1 c1, .int .i64 o, .slice A n c, .int .u32 h, .int .i64 m, .bool b, .slice A2 n2 c2] 33)
  have hr := Blk.new w3 33 #[.slice A1 n1 c1, .int .i64 o, .slice A n c, .int .u32 h, .int .i64 m, .bool b, .slice A2 n2 c2]
  replace hq := hq.below hb hq.lt
  replace hq' := hq'.below hb hq'.lt
  replace hB := hB.trans (hb.mono hB.size)
  replace u := u.nx hb
  replace u' := u'.nx hb
  generalize w3.alloc (.cells #[.slice A1 n1 c1, .int .i64 o, .slice A n c, .int .u32 h, .int .i64 m, .bool b, .slice A2 n2 c2] 33) = w4 at *
  clear hb
  -- region 4: 0 1C 2 3C 4 5 6 7C 8 9 10C 11 12 13 14 15 16C 17 18C 19 20 21 22 23 24C 25 26 27C 28C 29 30 31 32 33C 34 35 36 37 38 39 40 41 42 43 44 45C 46 47
  try refine wp_region_noPanic ?_
  refine wp_region_lat (by kernel_rfl) ?_
  (refine lat_now 0 (by rfl) ?_ (by kernel_rfl) (fun _ _ _ h => h) ?_ ?_; rotate_left; (focus (intro wq hSw; refine exec_load_blk (x := .tmp 2) ?_ ?_ (hq.below hSw hq.lt) _ Try.underlying28 rfl (by kernel_rfl) <;> rfl)); simp only [Act.put, List.setIfInBounds_toArray, List.set_cons_zero, List.set_cons_succ])
  (refine lat_now 2 (by rfl) ?_ (by kernel_rfl) (fun _ _ _ h => h) ?_ ?_; rotate_left; (focus (intro wq hSw; refine exec_load_blk (x := .tmp 5) ?_ ?_ (hr.below hSw hr.lt) _ Try.underlying33 rfl (by kernel_rfl) <;> rfl)); simp only [Act.put, List.setIfInBounds_toArray, List.set_cons_zero, List.set_cons_succ])
  (refine lat_late 1 (by rfl) (.bool (goodU l1 l2 o zs h m b)) (by kernel_rfl) (fun _ _ _ h => h) (fun wq hSw => ⟨_, _, ?_, upGood_any wq A1 n1 c1 l1 o A n c zs h m b A2 n2 c2 l2 (u.nx hSw) (by omega) (by omega) (by omega)⟩) ?_; focus (go_simp; try with_reducible rfl; done); try simp only [Act.put, List.setIfInBounds_toArray, List.set_cons_zero, List.set_cons_succ])
  (refine lat_late 3 (by rfl) (.bool (goodU l1 l2 o zs h m b)) (by kernel_rfl) (fun _ _ _ h => h) (fun wq hSw => ⟨_, _, ?_, refUpGood_any wq A1 n1 c1 l1 o A n c zs h m b A2 n2 c2 l2 (u.nx hSw) (by omega) (by omega) (by omega)⟩) ?_; focus (go_simp; try with_reducible rfl; done); try simp only [Act.put, List.setIfInBounds_toArray, List.set_cons_zero, List.set_cons_succ])
  (refine lat_now 4 (by rfl) ?_ (by kernel_rfl) (fun _ _ _ h => h) ?_ ?_; rotate_left; (focus (intro wq hSw; have hrd : ∀ b o, b < w4.heap.size → wq.cell? ⟨b, o, none⟩ = w4.cell? ⟨b, o, none⟩ := (fun b o h => Below.cell hSw (p := ⟨b, o, none⟩) h); go_simp; try with_reducible rfl; done)); try simp only [Act.put, List.setIfInBounds_toArray, List.set_cons_zero, List.set_cons_succ])
  (refine lat_now 5 (by rfl) ?_ (by kernel_rfl) (fun _ _ _ h => h) ?_ ?_; rotate_left; (focus (intro wq hSw; have hrd : ∀ b o, b < w4.heap.size → wq.cell? ⟨b, o, none⟩ = w4.cell? ⟨b, o, none⟩ := (fun b o h => Below.cell hSw (p := ⟨b, o, none⟩) h); go_simp; try with_reducible rfl; done)); try simp only [Act.put, List.setIfInBounds_toArray, List.set_cons_zero, List.set_cons_succ])
  (refine lat_now 6 (by rfl) ?_ (by kernel_rfl) (fun _ _ _ h => h) ?_ ?_; rotate_left; (focus (intro wq hSw; refine exec_load_blk (x := .tmp 2) ?_ ?_ (hq.below hSw hq.lt) _ Try.underlying28 rfl (by kernel_rfl) <;> rfl)); simp only [Act.put, List.setIfInBounds_toArray, List.set_cons_zero, List.set_cons_succ])
  (refine lat_now 9 (by rfl) ?_ (by kernel_rfl) (fun _ _ _ h => h) ?_ ?_; rotate_left; (focus (intro wq hSw; refine exec_load_blk (x := .tmp 5) ?_ ?_ (hr.below hSw hr.lt) _ Try.underlying33 rfl (by kernel_rfl) <;> rfl)); simp only [Act.put, List.setIfInBounds_toArray, List.set_cons_zero, List.set_cons_succ])
  refine lat_call 7 (by rfl) (by kernel_rfl) (by rfl) (fun wx1 hx1 KQ hKQ => ?_)
  go_simp
  replace hq := hq.below hx1 hq.lt
  replace hq' := hq'.below hx1 hq'.lt
  replace hr := hr.below hx1 hr.lt
  replace hB := hB.trans (hx1.mono hB.size)
  replace u := u.nx hx1
  replace u' := u'.nx hx1
  refine (upBytes_any wx1 A1 n1 c1 l1 o A n c zs h m b A2 n2 c2 l2 u (by omega) (by omega) (by omega)).mono ?_
  rintro e w5 ⟨v, rfl, own, hb⟩
  obtain ⟨A5, c5, rfl, _, _, by5, _⟩ := own.any2
  clear own
  replace u := u.nx hb
  replace u' := u'.nx hb
  refine hKQ.out _ _ hb ?_
  clear hKQ KQ
  replace hq := hq.below hb hq.lt
  replace hq' := hq'.below hb hq'.lt
  replace hr := hr.below hb hr.lt
  replace hB := hB.trans (hb.mono hB.size)
  try simp only [Act.put, List.setIfInBounds_toArray, List.set_cons_zero, List.set_cons_succ]
  (refine lat_now 8 (by rfl) ?_ (by kernel_rfl) (fun _ _ _ h => h) ?_ ?_; rotate_left; (focus (intro wq hSw; have q := run_str wq (by5.below hSw) c5; go_simp; try with_reducible rfl; done)); simp only [Act.put, List.setIfInBounds_toArray, List.set_cons_zero, List.set_cons_succ])
  clear hb
  refine lat_call 10 (by rfl) (by kernel_rfl) (by rfl) (fun wx2 hx2 KQ hKQ => ?_)
  go_simp
  replace hq := hq.below hx2 hq.lt
  replace hq' := hq'.below hx2 hq'.lt
  replace hr := hr.below hx2 hr.lt
  replace hB := hB.trans (hx2.mono hB.size)
  replace u := u.nx hx2
  replace u' := u'.nx hx2
  refine (refUpBytes_any wx2 A1 n1 c1 l1 o A n c zs h m b A2 n2 c2 l2 u (by omega) (by omega) (by omega)).mono ?_
  rintro e w6 ⟨v, rfl, own, hb⟩
  obtain ⟨A6, c6, rfl, _, _, by6, _⟩ := own.any2
  clear own
  replace u := u.nx hb
  replace u' := u'.nx hb
  refine hKQ.out _ _ hb ?_
  clear hKQ KQ
  replace hq := hq.below hb hq.lt
  replace hq' := hq'.below hb hq'.lt
  replace hr := hr.below hb hr.lt
  replace hB := hB.trans (hb.mono hB.size)
  try simp only [Act.put, List.setIfInBounds_toArray, List.set_cons_zero, List.set_cons_succ]
  (refine lat_now 11 (by rfl) ?_ (by kernel_rfl) (fun _ _ _ h => h) ?_ ?_; rotate_left; (focus (intro wq hSw; have q := run_str wq (by6.below hSw) c6; go_simp; try with_reducible rfl; done)); simp only [Act.put, List.setIfInBounds_toArray, List.set_cons_zero, List.set_cons_succ])
  (refine lat_now 12 (by rfl) ?_ (by kernel_rfl) (fun _ _ _ h => h) ?_ ?_; rotate_left; (focus (intro wq hSw; have hrd : ∀ b o, b < w6.heap.size → wq.cell? ⟨b, o, none⟩ = w6.cell? ⟨b, o, none⟩ := (fun b o h => Below.cell hSw (p := ⟨b, o, none⟩) h); go_simp; try with_reducible rfl; done)); try simp only [Act.put, List.setIfInBounds_toArray, List.set_cons_zero, List.set_cons_succ])
  (refine lat_now 13 (by rfl) ?_ (by kernel_rfl) (fun _ _ _ h => h) ?_ ?_; rotate_left; (focus (intro wq hSw; have hrd : ∀ b o, b < w6.heap.size → wq.cell? ⟨b, o, none⟩ = w6.cell? ⟨b, o, none⟩ := (fun b o h => Below.cell hSw (p := ⟨b, o, none⟩) h); go_simp; try with_reducible rfl; done)); try simp only [Act.put, List.setIfInBounds_toArray, List.set_cons_zero, List.set_cons_succ])
  (refine lat_now 14 (by rfl) ?_ (by kernel_rfl) (fun _ _ _ h => h) ?_ ?_; rotate_left; (focus (intro wq hSw; have hrd : ∀ b o, b < w6.heap.size → wq.cell? ⟨b, o, none⟩ = w6.cell? ⟨b, o, none⟩ := (fun b o h => Below.cell hSw (p := ⟨b, o, none⟩) h); go_simp; try with_reducible rfl; done)); try simp only [Act.put, List.setIfInBounds_toArray, List.set_cons_zero, List.set_cons_succ])
  (refine lat_now 15 (by rfl) ?_ (by kernel_rfl) (fun _ _ _ h => h) ?_ ?_; rotate_left; (focus (intro wq hSw; refine exec_load_blk (x := .tmp 2) ?_ ?_ (hq.below hSw hq.lt) _ Try.underlying28 rfl (by kernel_rfl) <;> rfl)); simp only [Act.put, List.setIfInBounds_toArray, List.set_cons_zero, List.set_cons_succ])
  (refine lat_now 17 (by rfl) ?_ (by kernel_rfl) (fun _ _ _ h => h) ?_ ?_; rotate_left; (focus (intro wq hSw; refine exec_load_blk (x := .tmp 5) ?_ ?_ (hr.below hSw hr.lt) _ Try.underlying33 rfl (by kernel_rfl) <;> rfl)); simp only [Act.put, List.setIfInBounds_toArray, List.set_cons_zero, List.set_cons_succ])
  clear hb
  have lt0 := hq.lt
  have q0 : w6.cell? ⟨w.heap.size, 0, none⟩ = some (.slice A1 n1 c1) := hq.cellv 0 rfl
  have q6 : w6.cell? ⟨w.heap.size, 6, none⟩ = some (.slice A2 n2 c2) := hq.cellv 6 rfl
  have k9 := IntWalk.i64_in ((n1 : Int) + (n2 : Int)) (by omega)
  have k8 : ((((n1 : Int) + (n2 : Int))) == 0) = decide (n1 + n2 = 0) := by rw [Bool.eq_iff_iff]; simp; omega
  (refine lat_late 16 (by rfl) (.int .i64 (upSize l1 l2 o zs h m b)) (by kernel_rfl) (fun _ _ _ h => h) (fun wq hSw => ⟨_, _, ?_, upSize_any wq A1 n1 c1 l1 o A n c zs h m b A2 n2 c2 l2 (u.nx hSw) (by omega) (by omega) (by omega)⟩) ?_; focus (go_simp; try with_reducible rfl; done); try simp only [Act.put, List.setIfInBounds_toArray, List.set_cons_zero, List.set_cons_succ])
  (refine lat_late 18 (by rfl) (.int .i64 (upSize l1 l2 o zs h m b)) (by kernel_rfl) (fun _ _ _ h => h) (fun wq hSw => ⟨_, _, ?_, refUpSize_any wq A1 n1 c1 l1 o A n c zs h m b A2 n2 c2 l2 (u.nx hSw) (by omega) (by omega) (by omega)⟩) ?_; focus (go_simp; try with_reducible rfl; done); try simp only [Act.put, List.setIfInBounds_toArray, List.set_cons_zero, List.set_cons_succ])
  (refine lat_now 19 (by rfl) ?_ (by kernel_rfl) (fun _ _ _ h => h) ?_ ?_; rotate_left; (focus (intro wq hSw; have hrd : ∀ b o, b < w6.heap.size → wq.cell? ⟨b, o, none⟩ = w6.cell? ⟨b, o, none⟩ := (fun b o h => Below.cell hSw (p := ⟨b, o, none⟩) h); go_simp; try with_reducible rfl; done)); try simp only [Act.put, List.setIfInBounds_toArray, List.set_cons_zero, List.set_cons_succ])
  (refine lat_now 20 (by rfl) ?_ (by kernel_rfl) (fun _ _ _ h => h) ?_ ?_; rotate_left; (focus (intro wq hSw; have hrd : ∀ b o, b < w6.heap.size → wq.cell? ⟨b, o, none⟩ = w6.cell? ⟨b, o, none⟩ := (fun b o h => Below.cell hSw (p := ⟨b, o, none⟩) h); go_simp; try with_reducible rfl; done)); try simp only [Act.put, List.setIfInBounds_toArray, List.set_cons_zero, List.set_cons_succ])
  (refine lat_now 21 (by rfl) ?_ (by kernel_rfl) (fun _ _ _ h => h) ?_ ?_; rotate_left; (focus (intro wq hSw; have hrd : ∀ b o, b < w6.heap.size → wq.cell? ⟨b, o, none⟩ = w6.cell? ⟨b, o, none⟩ := (fun b o h => Below.cell hSw (p := ⟨b, o, none⟩) h); go_simp; try with_reducible rfl; done)); try simp only [Act.put, List.setIfInBounds_toArray, List.set_cons_zero, List.set_cons_succ])
  (refine lat_now 22 (by rfl) ?_ (by kernel_rfl) (fun _ _ _ h => h) ?_ ?_; rotate_left; (focus (intro wq hSw; refine exec_load_blk (x := .tmp 2) ?_ ?_ (hq.below hSw hq.lt) _ Try.underlying28 rfl (by kernel_rfl) <;> rfl)); simp only [Act.put, List.setIfInBounds_toArray, List.set_cons_zero, List.set_cons_succ])
  (refine lat_now 23 (by rfl) ?_ (by kernel_rfl) (fun _ _ _ h => h) ?_ ?_; rotate_left; (focus (intro wq hSw; refine exec_load_blk (x := .tmp 3) ?_ ?_ (hq'.below hSw hq'.lt) _ Try.underlying28 rfl (by kernel_rfl) <;> rfl)); simp only [Act.put, List.setIfInBounds_toArray, List.set_cons_zero, List.set_cons_succ])
  (refine lat_now 25 (by rfl) ?_ (by kernel_rfl) (fun _ _ _ h => h) ?_ ?_; rotate_left; (focus (intro wq hSw; refine exec_load_blk (x := .tmp 5) ?_ ?_ (hr.below hSw hr.lt) _ Try.underlying33 rfl (by kernel_rfl) <;> rfl)); simp only [Act.put, List.setIfInBounds_toArray, List.set_cons_zero, List.set_cons_succ])
  (refine lat_now 26 (by rfl) ?_ (by kernel_rfl) (fun _ _ _ h => h) ?_ ?_; rotate_left; (focus (intro wq hSw; refine exec_load_blk (x := .tmp 3) ?_ ?_ (hq'.below hSw hq'.lt) _ Try.underlying28 rfl (by kernel_rfl) <;> rfl)); simp only [Act.put, List.setIfInBounds_toArray, List.set_cons_zero, List.set_cons_succ])
  (refine lat_late 24 (by rfl) (.bool (sameU l1 l2 o zs h m b l1' l2' o' zs' h' m' b')) (by kernel_rfl) (fun _ _ _ h => h) (fun wq hSw => ⟨_, _, ?_, upSame_any wq A1 n1 c1 l1 o A n c zs h m b A2 n2 c2 l2 A1' n1' c1' l1' o' A' n' c' zs' h' m' b' A2' n2' c2' l2' (u.nx hSw) (u'.nx hSw) (by omega) (by omega) (by omega)⟩) ?_; focus (go_simp; try with_reducible rfl; done); try simp only [Act.put, List.setIfInBounds_toArray, List.set_cons_zero, List.set_cons_succ])
  (refine lat_late 27 (by rfl) (.agg #[.slice A1' n1' c1', .int .i64 o', .slice A' n' c', .int .u32 h', .int .i64 m', .bool b', .slice A2' n2' c2']) (by kernel_rfl) (fun _ _ _ h => h) (fun wq hSw => ⟨_, _, ?_, plain9_any wq A1' n1' c1' o' A' n' c' h' m' b' A2' n2' c2'⟩) ?_; focus (go_simp; try with_reducible rfl; done); try simp only [Act.put, List.setIfInBounds_toArray, List.set_cons_zero, List.set_cons_succ])
  (refine lat_late 28 (by rfl) (.bool (sameU l1 l2 o zs h m b l1' l2' o' zs' h' m' b')) (by kernel_rfl) (fun _ _ _ h => h) (fun wq hSw => ⟨_, _, ?_, refUpSame_any wq A1 n1 c1 l1 o A n c zs h m b A2 n2 c2 l2 A1' n1' c1' l1' o' A' n' c' zs' h' m' b' A2' n2' c2' l2' (u.nx hSw) (u'.nx hSw) (by omega) (by omega) (by omega)⟩) ?_; focus (go_simp; try with_reducible rfl; done); try simp only [Act.put, List.setIfInBounds_toArray, List.set_cons_zero, List.set_cons_succ])
  (refine lat_now 29 (by rfl) ?_ (by kernel_rfl) (fun _ _ _ h => h) ?_ ?_; rotate_left; (focus (intro wq hSw; have hrd : ∀ b o, b < w6.heap.size → wq.cell? ⟨b, o, none⟩ = w6.cell? ⟨b, o, none⟩ := (fun b o h => Below.cell hSw (p := ⟨b, o, none⟩) h); go_simp; try with_reducible rfl; done)); try simp only [Act.put, List.setIfInBounds_toArray, List.set_cons_zero, List.set_cons_succ])
  (refine lat_now 30 (by rfl) ?_ (by kernel_rfl) (fun _ _ _ h => h) ?_ ?_; rotate_left; (focus (intro wq hSw; have hrd : ∀ b o, b < w6.heap.size → wq.cell? ⟨b, o, none⟩ = w6.cell? ⟨b, o, none⟩ := (fun b o h => Below.cell hSw (p := ⟨b, o, none⟩) h); go_simp; try with_reducible rfl; done)); try simp only [Act.put, List.setIfInBounds_toArray, List.set_cons_zero, List.set_cons_succ])
  (refine lat_now 31 (by rfl) ?_ (by kernel_rfl) (fun _ _ _ h => h) ?_ ?_; rotate_left; (focus (intro wq hSw; have hrd : ∀ b o, b < w6.heap.size → wq.cell? ⟨b, o, none⟩ = w6.cell? ⟨b, o, none⟩ := (fun b o h => Below.cell hSw (p := ⟨b, o, none⟩) h); go_simp; try with_reducible rfl; done)); try simp only [Act.put, List.setIfInBounds_toArray, List.set_cons_zero, List.set_cons_succ])
  (refine lat_now 32 (by rfl) ?_ (by kernel_rfl) (fun _ _ _ h => h) ?_ ?_; rotate_left; (focus (intro wq hSw; refine exec_load_blk (x := .tmp 2) ?_ ?_ (hq.below hSw hq.lt) _ Try.underlying28 rfl (by kernel_rfl) <;> rfl)); simp only [Act.put, List.setIfInBounds_toArray, List.set_cons_zero, List.set_cons_succ])
  (refine lat_now 34 (by rfl) ?_ (by kernel_rfl) (fun _ _ _ h => h) ?_ ?_; rotate_left; (focus (intro wq hSw; have hrd : ∀ b o, b < w6.heap.size → wq.cell? ⟨b, o, none⟩ = w6.cell? ⟨b, o, none⟩ := (fun b o h => Below.cell hSw (p := ⟨b, o, none⟩) h); go_simp; try with_reducible rfl; done)); try simp only [Act.put, List.setIfInBounds_toArray, List.set_cons_zero, List.set_cons_succ])
  (refine lat_now 35 (by rfl) ?_ (by kernel_rfl) (fun _ _ _ h => h) ?_ ?_; rotate_left; (focus (intro wq hSw; have hrd : ∀ b o, b < w6.heap.size → wq.cell? ⟨b, o, none⟩ = w6.cell? ⟨b, o, none⟩ := (fun b o h => Below.cell hSw (p := ⟨b, o, none⟩) h); go_simp; try with_reducible rfl; done)); try simp only [Act.put, List.setIfInBounds_toArray, List.set_cons_zero, List.set_cons_succ])
  (refine lat_now 36 (by rfl) ?_ (by kernel_rfl) (fun _ _ _ h => h) ?_ ?_; rotate_left; (focus (intro wq hSw; have hrd : ∀ b o, b < w6.heap.size → wq.cell? ⟨b, o, none⟩ = w6.cell? ⟨b, o, none⟩ := (fun b o h => Below.cell hSw (p := ⟨b, o, none⟩) h); go_simp; try with_reducible rfl; done)); try simp only [Act.put, List.setIfInBounds_toArray, List.set_cons_zero, List.set_cons_succ])
  (refine lat_now 37 (by rfl) ?_ (by kernel_rfl) (fun _ _ _ h => h) ?_ ?_; rotate_left; (focus (intro wq hSw; have hrd : ∀ b o, b < w6.heap.size → wq.cell? ⟨b, o, none⟩ = w6.cell? ⟨b, o, none⟩ := (fun b o h => Below.cell hSw (p := ⟨b, o, none⟩) h); go_simp; try with_reducible rfl; done)); try simp only [Act.put, List.setIfInBounds_toArray, List.set_cons_zero, List.set_cons_succ])
  (refine lat_now 38 (by rfl) ?_ (by kernel_rfl) (fun _ _ _ h => h) ?_ ?_; rotate_left; (focus (intro wq hSw; have hrd : ∀ b o, b < w6.heap.size → wq.cell? ⟨b, o, none⟩ = w6.cell? ⟨b, o, none⟩ := (fun b o h => Below.cell hSw (p := ⟨b, o, none⟩) h); go_simp; try with_reducible rfl; done)); try simp only [Act.put, List.setIfInBounds_toArray, List.set_cons_zero, List.set_cons_succ])
  (refine lat_now 39 (by rfl) ?_ (by kernel_rfl) (fun _ _ _ h => h) ?_ ?_; rotate_left; (focus (intro wq hSw; have hrd : ∀ b o, b < w6.heap.size → wq.cell? ⟨b, o, none⟩ = w6.cell? ⟨b, o, none⟩ := (fun b o h => Below.cell hSw (p := ⟨b, o, none⟩) h); go_simp; try with_reducible rfl; done)); try simp only [Act.put, List.setIfInBounds_toArray, List.set_cons_zero, List.set_cons_succ])
  (refine lat_now 40 (by rfl) ?_ (by kernel_rfl) (fun _ _ _ h => h) ?_ ?_; rotate_left; (focus (intro wq hSw; have hrd : ∀ b o, b < w6.heap.size → wq.cell? ⟨b, o, none⟩ = w6.cell? ⟨b, o, none⟩ := (fun b o h => Below.cell hSw (p := ⟨b, o, none⟩) h); go_simp; try with_reducible rfl; done)); try simp only [Act.put, List.setIfInBounds_toArray, List.set_cons_zero, List.set_cons_succ])
  (refine lat_now 41 (by rfl) ?_ (by kernel_rfl) (fun _ _ _ h => h) ?_ ?_; rotate_left; (focus (intro wq hSw; have hrd : ∀ b o, b < w6.heap.size → wq.cell? ⟨b, o, none⟩ = w6.cell? ⟨b, o, none⟩ := (fun b o h => Below.cell hSw (p := ⟨b, o, none⟩) h); go_simp; try with_reducible rfl; done)); try simp only [Act.put, List.setIfInBounds_toArray, List.set_cons_zero, List.set_cons_succ])
  (refine lat_late 33 (by rfl) (.bool (decide (n1 + n2 = 0))) (by kernel_rfl) (fun _ _ _ h => h) (fun wq hSw => ⟨_, _, ?_, upEmpty_any wq A1 n1 c1 l1 o A n c zs h m b A2 n2 c2 l2 (by omega) (by omega)⟩) ?_; focus (go_simp; try with_reducible rfl; done); try simp only [Act.put, List.setIfInBounds_toArray, List.set_cons_zero, List.set_cons_succ])
  (refine lat_now 42 (by rfl) ?_ (by kernel_rfl) (fun _ _ _ h => h) ?_ ?_; rotate_left; (focus (intro wq hSw; have hrd : ∀ b o, b < w6.heap.size → wq.cell? ⟨b, o, none⟩ = w6.cell? ⟨b, o, none⟩ := (fun b o h => Below.cell hSw (p := ⟨b, o, none⟩) h); go_simp; try with_reducible rfl; done)); try simp only [Act.put, List.setIfInBounds_toArray, List.set_cons_zero, List.set_cons_succ])
  (refine lat_now 43 (by rfl) ?_ (by kernel_rfl) (fun _ _ _ h => h) ?_ ?_; rotate_left; (focus (intro wq hSw; have hrd : ∀ b o, b < w6.heap.size → wq.cell? ⟨b, o, none⟩ = w6.cell? ⟨b, o, none⟩ := (fun b o h => Below.cell hSw (p := ⟨b, o, none⟩) h); go_simp; try with_reducible rfl; done)); try simp only [Act.put, List.setIfInBounds_toArray, List.set_cons_zero, List.set_cons_succ])
  (refine lat_now 44 (by rfl) ?_ (by kernel_rfl) (fun _ _ _ h => h) ?_ ?_; rotate_left; (focus (intro wq hSw; have hrd : ∀ b o, b < w6.heap.size → wq.cell? ⟨b, o, none⟩ = w6.cell? ⟨b, o, none⟩ := (fun b o h => Below.cell hSw (p := ⟨b, o, none⟩) h); go_simp; try with_reducible rfl; done)); try simp only [Act.put, List.setIfInBounds_toArray, List.set_cons_zero, List.set_cons_succ])
  (refine lat_late 45 (by rfl) (.bool true) (by kernel_rfl) (fun _ _ _ h => h) (fun wq hSw => ⟨_, _, ?_, lives9_any wq⟩) ?_; focus (go_simp; try with_reducible rfl; done); try simp only [Act.put, List.setIfInBounds_toArray, List.set_cons_zero, List.set_cons_succ])
  (refine lat_now 46 (by rfl) ?_ (by kernel_rfl) (fun _ _ _ h => h) ?_ ?_; rotate_left; (focus (intro wq hSw; have hrd : ∀ b o, b < w6.heap.size → wq.cell? ⟨b, o, none⟩ = w6.cell? ⟨b, o, none⟩ := (fun b o h => Below.cell hSw (p := ⟨b, o, none⟩) h); go_simp; try with_reducible rfl; done)); try simp only [Act.put, List.setIfInBounds_toArray, List.set_cons_zero, List.set_cons_succ])
  (refine lat_now 47 (by rfl) ?_ (by kernel_rfl) (fun _ _ _ h => h) ?_ ?_; rotate_left; (focus (intro wq hSw; have hrd : ∀ b o, b < w6.heap.size → wq.cell? ⟨b, o, none⟩ = w6.cell? ⟨b, o, none⟩ := (fun b o h => Below.cell hSw (p := ⟨b, o, none⟩) h); go_simp; try with_reducible rfl; done)); try simp only [Act.put, List.setIfInBounds_toArray, List.set_cons_zero, List.set_cons_succ])
  refine lat_done (by kernel_rfl) (fun wz hz => ?_) _
  try refine NoPanic.normal ?_
  go_wp2_with fail
  go_ret
  exact ⟨rfl, hB.trans (hz.mono hB.size)⟩
end Go.Proofs.Ytfnclmacodchfaa
