/- update: Same, the document's; Empty. -/
import Derived.Test.YtfnclmacodchfaaPfS
namespace Go.Proofs.Ytfnclmacodchfaa
set_option linter.unusedVariables false
open Go Go.RowKit

/-- are two bodies alike? -/
def sameU (l1 l2 : List (Int × Int)) (o : Int) (zs : List Int) (h m : Int) (b : Bool) (l1' l2' : List (Int × Int)) (o' : Int) (zs' : List Int) (h' m' : Int) (b' : Bool) : Bool := (decide (l1 = l1') && decide (l2 = l2')) && sameA o zs h m b o' zs' h' m' b'
set_option maxRecDepth 100000 in
set_option maxHeartbeats 8000000 in
theorem upSame_any (w : World) (A1 : Option Addr) (n1 c1 : Nat) (l1 : List (Int × Int)) (o : Int) (A : Option Addr) (n c : Nat) (zs : List Int) (h m : Int) (b : Bool) (A2 : Option Addr) (n2 c2 : Nat) (l2 : List (Int × Int)) (A1' : Option Addr) (n1' c1' : Nat) (l1' : List (Int × Int)) (o' : Int) (A' : Option Addr) (n' c' : Nat) (zs' : List Int) (h' m' : Int) (b' : Bool) (A2' : Option Addr) (n2' c2' : Nat) (l2' : List (Int × Int)) (u : UpR w A1 n1 l1 A n zs h A2 n2 l2) (u' : UpR w A1' n1' l1' A' n' zs' h' A2' n2' l2') (z1 : n1 ≤ 1000000) (z2 : n2 ≤ 1000000) (z3 : n ≤ 100000) :
    Calls Try.prog 16 #[.agg #[.slice A1 n1 c1, .int .i64 o, .slice A n c, .int .u32 h, .int .i64 m, .bool b, .slice A2 n2 c2], .agg #[.slice A1' n1' c1', .int .i64 o', .slice A' n' c', .int .u32 h', .int .i64 m', .bool b', .slice A2' n2' c2']] w fun e w' => e = .returned (.bool (sameU l1 l2 o zs h m b l1' l2' o' zs' h' m' b')) ∧ Below w.heap.size w w' := by
  have hB := ((Below.refl w.heap.size w).alloc (Nat.le_refl _) (.cells #[.slice A1 n1 c1, .int .i64 o, .slice A n c, .int .u32 h, .int .i64 m, .bool b, .slice A2 n2 c2] 28)).alloc (by simp) (.cells #[.slice A1' n1' c1', .int .i64 o', .slice A' n' c', .int .u32 h', .int .i64 m', .bool b', .slice A2' n2' c2'] 28)
  have hp := (Blk.new w 28 #[.slice A1 n1 c1, .int .i64 o, .slice A n c, .int .u32 h, .int .i64 m, .bool b, .slice A2 n2 c2]).alloc (.cells #[.slice A1' n1' c1', .int .i64 o', .slice A' n' c', .int .u32 h', .int .i64 m', .bool b', .slice A2' n2' c2'] 28)
  have hp' : Blk ((w.alloc (.cells #[.slice A1 n1 c1, .int .i64 o, .slice A n c, .int .u32 h, .int .i64 m, .bool b, .slice A2 n2 c2] 28)).alloc (.cells #[.slice A1' n1' c1', .int .i64 o', .slice A' n' c', .int .u32 h', .int .i64 m', .bool b', .slice A2' n2' c2'] 28)) (w.heap.size + 1) 28 #[.slice A1' n1' c1', .int .i64 o', .slice A' n' c', .int .u32 h', .int .i64 m', .bool b', .slice A2' n2' c2'] := by
    have := Blk.new (w.alloc (.cells #[.slice A1 n1 c1, .int .i64 o, .slice A n c, .int .u32 h, .int .i64 m, .bool b, .slice A2 n2 c2] 28)) 28 #[.slice A1' n1' c1', .int .i64 o', .slice A' n' c', .int .u32 h', .int .i64 m', .bool b', .slice A2' n2' c2']
    simpa using this
  go_enter Try.func16, Try.ntmps16
  go_upto_region 1 with (fail)
  generalize (w.alloc (.cells #[.slice A1 n1 c1, .int .i64 o, .slice A n c, .int .u32 h, .int .i64 m, .bool b, .slice A2 n2 c2] 28)).alloc (.cells #[.slice A1' n1' c1', .int .i64 o', .slice A' n' c', .int .u32 h', .int .i64 m', .bool b', .slice A2' n2' c2'] 28) = w1 at *
  have hz := hB.size
  have u1 := u.nx hB
  have u1' := u'.nx hB
  have q0 : w1.cell? ⟨w.heap.size, 0, none⟩ = some (.slice A1 n1 c1) := hp.cellv 0 rfl
  have q1 : w1.cell? ⟨w.heap.size, 1, none⟩ = some (.int .i64 o) := hp.cellv 1 rfl
  have q2 : w1.cell? ⟨w.heap.size, 2, none⟩ = some (.slice A n c) := hp.cellv 2 rfl
  have q3 : w1.cell? ⟨w.heap.size, 3, none⟩ = some (.int .u32 h) := hp.cellv 3 rfl
  have q4 : w1.cell? ⟨w.heap.size, 4, none⟩ = some (.int .i64 m) := hp.cellv 4 rfl
  have q5 : w1.cell? ⟨w.heap.size, 5, none⟩ = some (.bool b) := hp.cellv 5 rfl
  have q6 : w1.cell? ⟨w.heap.size, 6, none⟩ = some (.slice A2 n2 c2) := hp.cellv 6 rfl
  have p0 : w1.cell? ⟨w.heap.size + 1, 0, none⟩ = some (.slice A1' n1' c1') := hp'.cellv 0 rfl
  have p1 : w1.cell? ⟨w.heap.size + 1, 1, none⟩ = some (.int .i64 o') := hp'.cellv 1 rfl
  have p2 : w1.cell? ⟨w.heap.size + 1, 2, none⟩ = some (.slice A' n' c') := hp'.cellv 2 rfl
  have p3 : w1.cell? ⟨w.heap.size + 1, 3, none⟩ = some (.int .u32 h') := hp'.cellv 3 rfl
  have p4 : w1.cell? ⟨w.heap.size + 1, 4, none⟩ = some (.int .i64 m') := hp'.cellv 4 rfl
  have p5 : w1.cell? ⟨w.heap.size + 1, 5, none⟩ = some (.bool b') := hp'.cellv 5 rfl
  have p6 : w1.cell? ⟨w.heap.size + 1, 6, none⟩ = some (.slice A2' n2' c2') := hp'.cellv 6 rfl
  have ql := hp.lt
  have pl := hp'.lt
  have hE1 := equalP_any w1 (fun b => b < w1.heap.size) (fun b => b < w1.heap.size) A1 n1 c1 l1 A1' n1' c1' l1' u1.s1 u1'.s1 (fun _ h => h) (fun _ h => h) z1
  have hE2 := fun (w2 : World) (hb : Below w1.heap.size w1 w2) => equalP_any w2 (fun b => b < w2.heap.size) (fun b => b < w2.heap.size) A2 n2 c2 l2 A2' n2' c2' l2' (u1.nx hb).s2 (u1'.nx hb).s2 (fun _ h => h) (fun _ h => h) z2
  cases d1 : decide (l1 = l1')
  · have e := Lib.hid (show sameU l1 l2 o zs h m b l1' l2' o' zs' h' m' b' = false by unfold sameU; rw [d1]; rfl)
    rw [d1] at hE1
    replace d1 := Lib.hid d1
    go_wp2_with (go_at_call 33; refine hE1.mono ?_; rintro e w2 ⟨rfl, hb2⟩)
    go_ret
    exact ⟨ret_bool e.out.symm, hB.trans (hb2.mono hz)⟩
  rw [d1] at hE1
  have k1 : (decide (l1 = l1')) = true := d1
  replace k1 := Lib.hid k1
  replace d1 := Lib.hid d1
  cases d2 : decide (l2 = l2')
  · have e := Lib.hid (show sameU l1 l2 o zs h m b l1' l2' o' zs' h' m' b' = false by unfold sameU; rw [k1.out, d2]; rfl)
    rw [d2] at hE2
    replace d2 := Lib.hid d2
    go_wp2_with (go_at_call 33; first
      | (with_reducible refine hE1.mono ?_; rintro e w2 ⟨rfl, hb2⟩; replace hp := hp.below hb2 hp.lt; replace hp' := hp'.below hb2 hp'.lt; clear q0 q1 q2 q3 q4 q5 q6 ql p0 p1 p2 p3 p4 p5 p6 pl; have q0 : w2.cell? ⟨w.heap.size, 0, none⟩ = some (.slice A1 n1 c1) := hp.cellv 0 rfl; have q1 : w2.cell? ⟨w.heap.size, 1, none⟩ = some (.int .i64 o) := hp.cellv 1 rfl; have q2 : w2.cell? ⟨w.heap.size, 2, none⟩ = some (.slice A n c) := hp.cellv 2 rfl; have q3 : w2.cell? ⟨w.heap.size, 3, none⟩ = some (.int .u32 h) := hp.cellv 3 rfl; have q4 : w2.cell? ⟨w.heap.size, 4, none⟩ = some (.int .i64 m) := hp.cellv 4 rfl; have q5 : w2.cell? ⟨w.heap.size, 5, none⟩ = some (.bool b) := hp.cellv 5 rfl; have q6 : w2.cell? ⟨w.heap.size, 6, none⟩ = some (.slice A2 n2 c2) := hp.cellv 6 rfl; have p0 : w2.cell? ⟨w.heap.size + 1, 0, none⟩ = some (.slice A1' n1' c1') := hp'.cellv 0 rfl; have p1 : w2.cell? ⟨w.heap.size + 1, 1, none⟩ = some (.int .i64 o') := hp'.cellv 1 rfl; have p2 : w2.cell? ⟨w.heap.size + 1, 2, none⟩ = some (.slice A' n' c') := hp'.cellv 2 rfl; have p3 : w2.cell? ⟨w.heap.size + 1, 3, none⟩ = some (.int .u32 h') := hp'.cellv 3 rfl; have p4 : w2.cell? ⟨w.heap.size + 1, 4, none⟩ = some (.int .i64 m') := hp'.cellv 4 rfl; have p5 : w2.cell? ⟨w.heap.size + 1, 5, none⟩ = some (.bool b') := hp'.cellv 5 rfl; have p6 : w2.cell? ⟨w.heap.size + 1, 6, none⟩ = some (.slice A2' n2' c2') := hp'.cellv 6 rfl; have ql := hp.lt; have pl := hp'.lt)
      | (with_reducible refine (hE2 _ hb2).mono ?_; rintro e w3 ⟨rfl, hb3⟩))
    go_ret
    exact ⟨ret_bool e.out.symm, hB.trans ((hb2.trans (hb3.mono hb2.size)).mono hz)⟩
  rw [d2] at hE2
  have e := Lib.hid (show sameU l1 l2 o zs h m b l1' l2' o' zs' h' m' b' = sameA o zs h m b o' zs' h' m' b' by unfold sameU; rw [k1.out, d2]; rfl)
  replace d2 := Lib.hid d2
  go_wp2_with (first
    | (go_at_call 33; first
      | (with_reducible refine hE1.mono ?_; rintro e w2 ⟨rfl, hb2⟩; replace hp := hp.below hb2 hp.lt; replace hp' := hp'.below hb2 hp'.lt; clear q0 q1 q2 q3 q4 q5 q6 ql p0 p1 p2 p3 p4 p5 p6 pl; have q0 : w2.cell? ⟨w.heap.size, 0, none⟩ = some (.slice A1 n1 c1) := hp.cellv 0 rfl; have q1 : w2.cell? ⟨w.heap.size, 1, none⟩ = some (.int .i64 o) := hp.cellv 1 rfl; have q2 : w2.cell? ⟨w.heap.size, 2, none⟩ = some (.slice A n c) := hp.cellv 2 rfl; have q3 : w2.cell? ⟨w.heap.size, 3, none⟩ = some (.int .u32 h) := hp.cellv 3 rfl; have q4 : w2.cell? ⟨w.heap.size, 4, none⟩ = some (.int .i64 m) := hp.cellv 4 rfl; have q5 : w2.cell? ⟨w.heap.size, 5, none⟩ = some (.bool b) := hp.cellv 5 rfl; have q6 : w2.cell? ⟨w.heap.size, 6, none⟩ = some (.slice A2 n2 c2) := hp.cellv 6 rfl; have p0 : w2.cell? ⟨w.heap.size + 1, 0, none⟩ = some (.slice A1' n1' c1') := hp'.cellv 0 rfl; have p1 : w2.cell? ⟨w.heap.size + 1, 1, none⟩ = some (.int .i64 o') := hp'.cellv 1 rfl; have p2 : w2.cell? ⟨w.heap.size + 1, 2, none⟩ = some (.slice A' n' c') := hp'.cellv 2 rfl; have p3 : w2.cell? ⟨w.heap.size + 1, 3, none⟩ = some (.int .u32 h') := hp'.cellv 3 rfl; have p4 : w2.cell? ⟨w.heap.size + 1, 4, none⟩ = some (.int .i64 m') := hp'.cellv 4 rfl; have p5 : w2.cell? ⟨w.heap.size + 1, 5, none⟩ = some (.bool b') := hp'.cellv 5 rfl; have p6 : w2.cell? ⟨w.heap.size + 1, 6, none⟩ = some (.slice A2' n2' c2') := hp'.cellv 6 rfl; have ql := hp.lt; have pl := hp'.lt)
      | (with_reducible refine (hE2 _ hb2).mono ?_; rintro e w3 ⟨rfl, hb3⟩; have hb3b := hb2.trans (hb3.mono hb2.size); replace hp := hp.below hb3 hp.lt; replace hp' := hp'.below hb3 hp'.lt; clear q0 q1 q2 q3 q4 q5 q6 ql p0 p1 p2 p3 p4 p5 p6 pl; have q0 : w3.cell? ⟨w.heap.size, 0, none⟩ = some (.slice A1 n1 c1) := hp.cellv 0 rfl; have q1 : w3.cell? ⟨w.heap.size, 1, none⟩ = some (.int .i64 o) := hp.cellv 1 rfl; have q2 : w3.cell? ⟨w.heap.size, 2, none⟩ = some (.slice A n c) := hp.cellv 2 rfl; have q3 : w3.cell? ⟨w.heap.size, 3, none⟩ = some (.int .u32 h) := hp.cellv 3 rfl; have q4 : w3.cell? ⟨w.heap.size, 4, none⟩ = some (.int .i64 m) := hp.cellv 4 rfl; have q5 : w3.cell? ⟨w.heap.size, 5, none⟩ = some (.bool b) := hp.cellv 5 rfl; have q6 : w3.cell? ⟨w.heap.size, 6, none⟩ = some (.slice A2 n2 c2) := hp.cellv 6 rfl; have p0 : w3.cell? ⟨w.heap.size + 1, 0, none⟩ = some (.slice A1' n1' c1') := hp'.cellv 0 rfl; have p1 : w3.cell? ⟨w.heap.size + 1, 1, none⟩ = some (.int .i64 o') := hp'.cellv 1 rfl; have p2 : w3.cell? ⟨w.heap.size + 1, 2, none⟩ = some (.slice A' n' c') := hp'.cellv 2 rfl; have p3 : w3.cell? ⟨w.heap.size + 1, 3, none⟩ = some (.int .u32 h') := hp'.cellv 3 rfl; have p4 : w3.cell? ⟨w.heap.size + 1, 4, none⟩ = some (.int .i64 m') := hp'.cellv 4 rfl; have p5 : w3.cell? ⟨w.heap.size + 1, 5, none⟩ = some (.bool b') := hp'.cellv 5 rfl; have p6 : w3.cell? ⟨w.heap.size + 1, 6, none⟩ = some (.slice A2' n2' c2') := hp'.cellv 6 rfl; have ql := hp.lt; have pl := hp'.lt))
    | (go_at_call 27; refine (attrSame_any w3 o A n c zs h m b o' A' n' c' zs' h' m' b' (u1.nx hb3b).pa (u1'.nx hb3b).pa z3).mono ?_; rintro e w4 ⟨rfl, hb4⟩))
  go_ret
  exact ⟨ret_bool e.out.symm, hB.trans ((hb3b.trans (hb4.mono hb3b.size)).mono hz)⟩
set_option maxRecDepth 100000 in
set_option maxHeartbeats 8000000 in
theorem refUpSame_any (w : World) (A1 : Option Addr) (n1 c1 : Nat) (l1 : List (Int × Int)) (o : Int) (A : Option Addr) (n c : Nat) (zs : List Int) (h m : Int) (b : Bool) (A2 : Option Addr) (n2 c2 : Nat) (l2 : List (Int × Int)) (A1' : Option Addr) (n1' c1' : Nat) (l1' : List (Int × Int)) (o' : Int) (A' : Option Addr) (n' c' : Nat) (zs' : List Int) (h' m' : Int) (b' : Bool) (A2' : Option Addr) (n2' c2' : Nat) (l2' : List (Int × Int)) (u : UpR w A1 n1 l1 A n zs h A2 n2 l2) (u' : UpR w A1' n1' l1' A' n' zs' h' A2' n2' l2') (z1 : n1 ≤ 1000000) (z2 : n2 ≤ 1000000) (z3 : n ≤ 100000) :
    Calls Try.prog 17 #[.agg #[.slice A1 n1 c1, .int .i64 o, .slice A n c, .int .u32 h, .int .i64 m, .bool b, .slice A2 n2 c2], .agg #[.slice A1' n1' c1', .int .i64 o', .slice A' n' c', .int .u32 h', .int .i64 m', .bool b', .slice A2' n2' c2']] w fun e w' => e = .returned (.bool (sameU l1 l2 o zs h m b l1' l2' o' zs' h' m' b')) ∧ Below w.heap.size w w' := by
  have hB := ((Below.refl w.heap.size w).alloc (Nat.le_refl _) (.cells #[.slice A1 n1 c1, .int .i64 o, .slice A n c, .int .u32 h, .int .i64 m, .bool b, .slice A2 n2 c2] 33)).alloc (by simp) (.cells #[.slice A1' n1' c1', .int .i64 o', .slice A' n' c', .int .u32 h', .int .i64 m', .bool b', .slice A2' n2' c2'] 33)
  have hp := (Blk.new w 33 #[.slice A1 n1 c1, .int .i64 o, .slice A n c, .int .u32 h, .int .i64 m, .bool b, .slice A2 n2 c2]).alloc (.cells #[.slice A1' n1' c1', .int .i64 o', .slice A' n' c', .int .u32 h', .int .i64 m', .bool b', .slice A2' n2' c2'] 33)
  have hp' : Blk ((w.alloc (.cells #[.slice A1 n1 c1, .int .i64 o, .slice A n c, .int .u32 h, .int .i64 m, .bool b, .slice A2 n2 c2] 33)).alloc (.cells #[.slice A1' n1' c1', .int .i64 o', .slice A' n' c', .int .u32 h', .int .i64 m', .bool b', .slice A2' n2' c2'] 33)) (w.heap.size + 1) 33 #[.slice A1' n1' c1', .int .i64 o', .slice A' n' c', .int .u32 h', .int .i64 m', .bool b', .slice A2' n2' c2'] := by
    have := Blk.new (w.alloc (.cells #[.slice A1 n1 c1, .int .i64 o, .slice A n c, .int .u32 h, .int .i64 m, .bool b, .slice A2 n2 c2] 33)) 33 #[.slice A1' n1' c1', .int .i64 o', .slice A' n' c', .int .u32 h', .int .i64 m', .bool b', .slice A2' n2' c2']
    simpa using this
  go_enter Try.func17, Try.ntmps17
  go_upto_region 1 with (fail)
  generalize (w.alloc (.cells #[.slice A1 n1 c1, .int .i64 o, .slice A n c, .int .u32 h, .int .i64 m, .bool b, .slice A2 n2 c2] 33)).alloc (.cells #[.slice A1' n1' c1', .int .i64 o', .slice A' n' c', .int .u32 h', .int .i64 m', .bool b', .slice A2' n2' c2'] 33) = w1 at *
  have hz := hB.size
  have u1 := u.nx hB
  have u1' := u'.nx hB
  have q0 : w1.cell? ⟨w.heap.size, 0, none⟩ = some (.slice A1 n1 c1) := hp.cellv 0 rfl
  have q1 : w1.cell? ⟨w.heap.size, 1, none⟩ = some (.int .i64 o) := hp.cellv 1 rfl
  have q2 : w1.cell? ⟨w.heap.size, 2, none⟩ = some (.slice A n c) := hp.cellv 2 rfl
  have q3 : w1.cell? ⟨w.heap.size, 3, none⟩ = some (.int .u32 h) := hp.cellv 3 rfl
  have q4 : w1.cell? ⟨w.heap.size, 4, none⟩ = some (.int .i64 m) := hp.cellv 4 rfl
  have q5 : w1.cell? ⟨w.heap.size, 5, none⟩ = some (.bool b) := hp.cellv 5 rfl
  have q6 : w1.cell? ⟨w.heap.size, 6, none⟩ = some (.slice A2 n2 c2) := hp.cellv 6 rfl
  have p0 : w1.cell? ⟨w.heap.size + 1, 0, none⟩ = some (.slice A1' n1' c1') := hp'.cellv 0 rfl
  have p1 : w1.cell? ⟨w.heap.size + 1, 1, none⟩ = some (.int .i64 o') := hp'.cellv 1 rfl
  have p2 : w1.cell? ⟨w.heap.size + 1, 2, none⟩ = some (.slice A' n' c') := hp'.cellv 2 rfl
  have p3 : w1.cell? ⟨w.heap.size + 1, 3, none⟩ = some (.int .u32 h') := hp'.cellv 3 rfl
  have p4 : w1.cell? ⟨w.heap.size + 1, 4, none⟩ = some (.int .i64 m') := hp'.cellv 4 rfl
  have p5 : w1.cell? ⟨w.heap.size + 1, 5, none⟩ = some (.bool b') := hp'.cellv 5 rfl
  have p6 : w1.cell? ⟨w.heap.size + 1, 6, none⟩ = some (.slice A2' n2' c2') := hp'.cellv 6 rfl
  have ql := hp.lt
  have pl := hp'.lt
  have hE1 := same3_any w1 (fun b => b < w1.heap.size) (fun b => b < w1.heap.size) A1 n1 c1 l1 A1' n1' c1' l1' u1.s1 u1'.s1 (fun _ h => h) (fun _ h => h) z1
  have hE2 := fun (w2 : World) (hb : Below w1.heap.size w1 w2) => same3_any w2 (fun b => b < w2.heap.size) (fun b => b < w2.heap.size) A2 n2 c2 l2 A2' n2' c2' l2' (u1.nx hb).s2 (u1'.nx hb).s2 (fun _ h => h) (fun _ h => h) z2
  cases d1 : decide (l1 = l1')
  · have e := Lib.hid (show sameU l1 l2 o zs h m b l1' l2' o' zs' h' m' b' = false by unfold sameU; rw [d1]; rfl)
    rw [d1] at hE1
    replace d1 := Lib.hid d1
    go_wp2_with (go_at_call 34; refine hE1.mono ?_; rintro e w2 ⟨rfl, hb2⟩)
    go_ret
    exact ⟨ret_bool e.out.symm, hB.trans (hb2.mono hz)⟩
  rw [d1] at hE1
  have k1 : (decide (l1 = l1')) = true := d1
  replace k1 := Lib.hid k1
  replace d1 := Lib.hid d1
  cases d2 : decide (l2 = l2')
  · have e := Lib.hid (show sameU l1 l2 o zs h m b l1' l2' o' zs' h' m' b' = false by unfold sameU; rw [k1.out, d2]; rfl)
    rw [d2] at hE2
    replace d2 := Lib.hid d2
    go_wp2_with (go_at_call 34; first
      | (with_reducible refine hE1.mono ?_; rintro e w2 ⟨rfl, hb2⟩; replace hp := hp.below hb2 hp.lt; replace hp' := hp'.below hb2 hp'.lt; clear q0 q1 q2 q3 q4 q5 q6 ql p0 p1 p2 p3 p4 p5 p6 pl; have q0 : w2.cell? ⟨w.heap.size, 0, none⟩ = some (.slice A1 n1 c1) := hp.cellv 0 rfl; have q1 : w2.cell? ⟨w.heap.size, 1, none⟩ = some (.int .i64 o) := hp.cellv 1 rfl; have q2 : w2.cell? ⟨w.heap.size, 2, none⟩ = some (.slice A n c) := hp.cellv 2 rfl; have q3 : w2.cell? ⟨w.heap.size, 3, none⟩ = some (.int .u32 h) := hp.cellv 3 rfl; have q4 : w2.cell? ⟨w.heap.size, 4, none⟩ = some (.int .i64 m) := hp.cellv 4 rfl; have q5 : w2.cell? ⟨w.heap.size, 5, none⟩ = some (.bool b) := hp.cellv 5 rfl; have q6 : w2.cell? ⟨w.heap.size, 6, none⟩ = some (.slice A2 n2 c2) := hp.cellv 6 rfl; have p0 : w2.cell? ⟨w.heap.size + 1, 0, none⟩ = some (.slice A1' n1' c1') := hp'.cellv 0 rfl; have p1 : w2.cell? ⟨w.heap.size + 1, 1, none⟩ = some (.int .i64 o') := hp'.cellv 1 rfl; have p2 : w2.cell? ⟨w.heap.size + 1, 2, none⟩ = some (.slice A' n' c') := hp'.cellv 2 rfl; have p3 : w2.cell? ⟨w.heap.size + 1, 3, none⟩ = some (.int .u32 h') := hp'.cellv 3 rfl; have p4 : w2.cell? ⟨w.heap.size + 1, 4, none⟩ = some (.int .i64 m') := hp'.cellv 4 rfl; have p5 : w2.cell? ⟨w.heap.size + 1, 5, none⟩ = some (.bool b') := hp'.cellv 5 rfl; have p6 : w2.cell? ⟨w.heap.size + 1, 6, none⟩ = some (.slice A2' n2' c2') := hp'.cellv 6 rfl; have ql := hp.lt; have pl := hp'.lt)
      | (with_reducible refine (hE2 _ hb2).mono ?_; rintro e w3 ⟨rfl, hb3⟩))
    go_ret
    exact ⟨ret_bool e.out.symm, hB.trans ((hb2.trans (hb3.mono hb2.size)).mono hz)⟩
  rw [d2] at hE2
  have e := Lib.hid (show sameU l1 l2 o zs h m b l1' l2' o' zs' h' m' b' = sameA o zs h m b o' zs' h' m' b' by unfold sameU; rw [k1.out, d2]; rfl)
  replace d2 := Lib.hid d2
  go_wp2_with (first
    | (go_at_call 34; first
      | (with_reducible refine hE1.mono ?_; rintro e w2 ⟨rfl, hb2⟩; replace hp := hp.below hb2 hp.lt; replace hp' := hp'.below hb2 hp'.lt; clear q0 q1 q2 q3 q4 q5 q6 ql p0 p1 p2 p3 p4 p5 p6 pl; have q0 : w2.cell? ⟨w.heap.size, 0, none⟩ = some (.slice A1 n1 c1) := hp.cellv 0 rfl; have q1 : w2.cell? ⟨w.heap.size, 1, none⟩ = some (.int .i64 o) := hp.cellv 1 rfl; have q2 : w2.cell? ⟨w.heap.size, 2, none⟩ = some (.slice A n c) := hp.cellv 2 rfl; have q3 : w2.cell? ⟨w.heap.size, 3, none⟩ = some (.int .u32 h) := hp.cellv 3 rfl; have q4 : w2.cell? ⟨w.heap.size, 4, none⟩ = some (.int .i64 m) := hp.cellv 4 rfl; have q5 : w2.cell? ⟨w.heap.size, 5, none⟩ = some (.bool b) := hp.cellv 5 rfl; have q6 : w2.cell? ⟨w.heap.size, 6, none⟩ = some (.slice A2 n2 c2) := hp.cellv 6 rfl; have p0 : w2.cell? ⟨w.heap.size + 1, 0, none⟩ = some (.slice A1' n1' c1') := hp'.cellv 0 rfl; have p1 : w2.cell? ⟨w.heap.size + 1, 1, none⟩ = some (.int .i64 o') := hp'.cellv 1 rfl; have p2 : w2.cell? ⟨w.heap.size + 1, 2, none⟩ = some (.slice A' n' c') := hp'.cellv 2 rfl; have p3 : w2.cell? ⟨w.heap.size + 1, 3, none⟩ = some (.int .u32 h') := hp'.cellv 3 rfl; have p4 : w2.cell? ⟨w.heap.size + 1, 4, none⟩ = some (.int .i64 m') := hp'.cellv 4 rfl; have p5 : w2.cell? ⟨w.heap.size + 1, 5, none⟩ = some (.bool b') := hp'.cellv 5 rfl; have p6 : w2.cell? ⟨w.heap.size + 1, 6, none⟩ = some (.slice A2' n2' c2') := hp'.cellv 6 rfl; have ql := hp.lt; have pl := hp'.lt)
      | (with_reducible refine (hE2 _ hb2).mono ?_; rintro e w3 ⟨rfl, hb3⟩; have hb3b := hb2.trans (hb3.mono hb2.size); replace hp := hp.below hb3 hp.lt; replace hp' := hp'.below hb3 hp'.lt; clear q0 q1 q2 q3 q4 q5 q6 ql p0 p1 p2 p3 p4 p5 p6 pl; have q0 : w3.cell? ⟨w.heap.size, 0, none⟩ = some (.slice A1 n1 c1) := hp.cellv 0 rfl; have q1 : w3.cell? ⟨w.heap.size, 1, none⟩ = some (.int .i64 o) := hp.cellv 1 rfl; have q2 : w3.cell? ⟨w.heap.size, 2, none⟩ = some (.slice A n c) := hp.cellv 2 rfl; have q3 : w3.cell? ⟨w.heap.size, 3, none⟩ = some (.int .u32 h) := hp.cellv 3 rfl; have q4 : w3.cell? ⟨w.heap.size, 4, none⟩ = some (.int .i64 m) := hp.cellv 4 rfl; have q5 : w3.cell? ⟨w.heap.size, 5, none⟩ = some (.bool b) := hp.cellv 5 rfl; have q6 : w3.cell? ⟨w.heap.size, 6, none⟩ = some (.slice A2 n2 c2) := hp.cellv 6 rfl; have p0 : w3.cell? ⟨w.heap.size + 1, 0, none⟩ = some (.slice A1' n1' c1') := hp'.cellv 0 rfl; have p1 : w3.cell? ⟨w.heap.size + 1, 1, none⟩ = some (.int .i64 o') := hp'.cellv 1 rfl; have p2 : w3.cell? ⟨w.heap.size + 1, 2, none⟩ = some (.slice A' n' c') := hp'.cellv 2 rfl; have p3 : w3.cell? ⟨w.heap.size + 1, 3, none⟩ = some (.int .u32 h') := hp'.cellv 3 rfl; have p4 : w3.cell? ⟨w.heap.size + 1, 4, none⟩ = some (.int .i64 m') := hp'.cellv 4 rfl; have p5 : w3.cell? ⟨w.heap.size + 1, 5, none⟩ = some (.bool b') := hp'.cellv 5 rfl; have p6 : w3.cell? ⟨w.heap.size + 1, 6, none⟩ = some (.slice A2' n2' c2') := hp'.cellv 6 rfl; have ql := hp.lt; have pl := hp'.lt))
    | (go_at_call 29; refine (refSame7_any w3 o A n c zs h m b o' A' n' c' zs' h' m' b' (u1.nx hb3b).pa (u1'.nx hb3b).pa z3).mono ?_; rintro e w4 ⟨rfl, hb4⟩))
  go_ret
  exact ⟨ret_bool e.out.symm, hB.trans ((hb3b.trans (hb4.mono hb3b.size)).mono hz)⟩
set_option maxRecDepth 100000 in
set_option maxHeartbeats 4000000 in
theorem upEmpty_any (w : World) (A1 : Option Addr) (n1 c1 : Nat) (l1 : List (Int × Int)) (o : Int) (A : Option Addr) (n c : Nat) (zs : List Int) (h m : Int) (b : Bool) (A2 : Option Addr) (n2 c2 : Nat) (l2 : List (Int × Int)) (z1 : n1 ≤ 1000000) (z2 : n2 ≤ 1000000) :
    Calls Try.prog 18 #[.agg #[.slice A1 n1 c1, .int .i64 o, .slice A n c, .int .u32 h, .int .i64 m, .bool b, .slice A2 n2 c2]] w fun e w' => e = .returned (.bool (decide (n1 + n2 = 0))) ∧ Below w.heap.size w w' := by
  have hB := (Below.refl w.heap.size w).alloc (Nat.le_refl _) (.cells #[.slice A1 n1 c1, .int .i64 o, .slice A n c, .int .u32 h, .int .i64 m, .bool b, .slice A2 n2 c2] 28)
  have k1 := IntWalk.i64_in ((n1 : Int) + (n2 : Int)) (by omega)
  go_enter Try.func18, Try.ntmps18
  go_wp2_with fail
  go_ret
  exact ⟨ret_bool (by rw [Bool.eq_iff_iff]; simp; omega), hB⟩
end Go.Proofs.Ytfnclmacodchfaa
