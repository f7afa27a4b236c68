/- policy: PolicyBetter. -/
import Derived.Test.YthllemlkdflhkaaPolC
import Derived.Test.YthllemlkdflhkaaOpen
import Derived.BigGuardPart
namespace Go.Proofs.Ythllemlkdflhkaa
set_option linter.unusedVariables false
open Go.RowKit

set_option maxRecDepth 100000 in
set_option maxHeartbeats 8000000 in
theorem better_walk (o1 : Int) (A1 : Option Addr) (n1 c1 : Nat) (h1 m1 : Int) (k1 : Bool) (o2 : Int) (A2 : Option Addr) (n2 c2 : Nat) (h2 m2 : Int) (k2 : Bool) (o3 : Int) (A3 : Option Addr) (n3 c3 : Nat) (h3 m3 : Int) (k3 : Bool) (w : World) :
    Calls Try.prog 3 #[.agg #[.int .i64 o1, .slice A1 n1 c1, .int .u32 h1, .int .i64 m1, .bool k1], .agg #[.int .i64 o2, .slice A2 n2 c2, .int .u32 h2, .int .i64 m2, .bool k2], .agg #[.int .i64 o3, .slice A3 n3 c3, .int .u32 h3, .int .i64 m3, .bool k3]] w fun e w' => e = .returned (.bool true) ∧ Below w.heap.size w w' := by
  have q1 := ((Blk.new w 25 (attrCs o1 A1 n1 c1 h1 m1 k1)).alloc (.cells (attrCs o2 A2 n2 c2 h2 m2 k2) 25)).alloc (.cells (attrCs o3 A3 n3 c3 h3 m3 k3) 25)
  have q2 := (Blk.new (w.alloc (.cells (attrCs o1 A1 n1 c1 h1 m1 k1) 25)) 25 (attrCs o2 A2 n2 c2 h2 m2 k2)).alloc (.cells (attrCs o3 A3 n3 c3 h3 m3 k3) 25)
  have q3 := Blk.new ((w.alloc (.cells (attrCs o1 A1 n1 c1 h1 m1 k1) 25)).alloc (.cells (attrCs o2 A2 n2 c2 h2 m2 k2) 25)) 25 (attrCs o3 A3 n3 c3 h3 m3 k3)
  have hB := (((Below.refl w.heap.size w).alloc (Nat.le_refl _) (.cells (attrCs o1 A1 n1 c1 h1 m1 k1) 25)).alloc (by simp) (.cells (attrCs o2 A2 n2 c2 h2 m2 k2) 25)).alloc (by simp; omega) (.cells (attrCs o3 A3 n3 c3 h3 m3 k3) 25)
  rw [World.size_alloc] at q2
  rw [World.size_alloc, World.size_alloc] at q3
  have f11 := q1.cellv 1 (v := .slice A1 n1 c1) rfl
  have f21 := q2.cellv 1 (v := .slice A2 n2 c2) rfl
  have f31 := q3.cellv 1 (v := .slice A3 n3 c3) rfl
  by_cases hn : 300 < n1 ∨ 300 < n2 ∨ 300 < n3
  · go_enter Try.func3, Try.ntmps3
    go_wp2_with fail
    all_goals try (exfalso; omega)
    all_goals (refine (lives_any _).mono ?_; rintro e w' ⟨rfl, hb⟩; go_wp2_with fail; go_ret; exact ⟨rfl, hB.trans (hb.mono hB.size)⟩)
  · have l1 : n1 ≤ 300 := by omega
    have l2 : n2 ≤ 300 := by omega
    have l3 : n3 ≤ 300 := by omega
    clear hn
    go_enter Try.func3, Try.ntmps3
    go_wp2_with fail
    all_goals try (exfalso; omega)
    change Code.wp _ _ _ _ (((w.alloc (.cells (attrCs o1 A1 n1 c1 h1 m1 k1) 25)).alloc (.cells (attrCs o2 A2 n2 c2 h2 m2 k2) 25)).alloc (.cells (attrCs o3 A3 n3 c3 h3 m3 k3) 25))
    generalize (((w.alloc (.cells (attrCs o1 A1 n1 c1 h1 m1 k1) 25)).alloc (.cells (attrCs o2 A2 n2 c2 h2 m2 k2) 25)).alloc (.cells (attrCs o3 A3 n3 c3 h3 m3 k3) 25)) = w0 at *
    clear f11 f21 f31
    replace q1 := q1.drew
    replace q2 := q2.drew
    replace q3 := q3.drew
    replace hB := hB.drew
    go_region_held3 (fun w' => w'.cell? ⟨w.heap.size, 0, none⟩ = some (.int .i64 o1) ∧ w'.cell? ⟨w.heap.size, 1, none⟩ = some (.slice A1 n1 c1) ∧ w'.cell? ⟨w.heap.size, 2, none⟩ = some (.int .u32 h1) ∧ w'.cell? ⟨w.heap.size, 3, none⟩ = some (.int .i64 m1) ∧ w'.cell? ⟨w.heap.size, 4, none⟩ = some (.bool k1) ∧ w'.cell? ⟨w.heap.size + 1, 0, none⟩ = some (.int .i64 o2) ∧ w'.cell? ⟨w.heap.size + 1, 1, none⟩ = some (.slice A2 n2 c2) ∧ w'.cell? ⟨w.heap.size + 1, 2, none⟩ = some (.int .u32 h2) ∧ w'.cell? ⟨w.heap.size + 1, 3, none⟩ = some (.int .i64 m2) ∧ w'.cell? ⟨w.heap.size + 1, 4, none⟩ = some (.bool k2) ∧ w'.cell? ⟨w.heap.size + 1 + 1, 0, none⟩ = some (.int .i64 o3) ∧ w'.cell? ⟨w.heap.size + 1 + 1, 1, none⟩ = some (.slice A3 n3 c3) ∧ w'.cell? ⟨w.heap.size + 1 + 1, 2, none⟩ = some (.int .u32 h3) ∧ w'.cell? ⟨w.heap.size + 1 + 1, 3, none⟩ = some (.int .i64 m3) ∧ w'.cell? ⟨w.heap.size + 1 + 1, 4, none⟩ = some (.bool k3)) (first | exact ⟨q1.cellv 0 rfl, q1.cellv 1 rfl, q1.cellv 2 rfl, q1.cellv 3 rfl, q1.cellv 4 rfl, q2.cellv 0 rfl, q2.cellv 1 rfl, q2.cellv 2 rfl, q2.cellv 3 rfl, q2.cellv 4 rfl, q3.cellv 0 rfl, q3.cellv 1 rfl, q3.cellv 2 rfl, q3.cellv 3 rfl, q3.cellv 4 rfl⟩) (first
      | (go_at_call 6; refine (better_any _ _ _ _ _ _ _ _ _ _ _ _ _ _ _ (by omega) (by omega)).mono ?_; rintro e w' ⟨rfl, hx⟩; have q1 := q1.below hx q1.lt; have q2 := q2.below hx q2.lt; have q3 := q3.below hx q3.lt; have hB := hB.trans (hx.mono hB.size); clear hx))
    have hself := betterV_self o1 n1 (medV m1 k1)
    have hanti : betterV o1 n1 (medV m1 k1) o2 n2 (medV m2 k2) = true → betterV o2 n2 (medV m2 k2) o1 n1 (medV m1 k1) = false := fun h => betterV_anti h
    have htr : betterV o1 n1 (medV m1 k1) o2 n2 (medV m2 k2) = true → betterV o2 n2 (medV m2 k2) o3 n3 (medV m3 k3) = true → betterV o1 n1 (medV m1 k1) o3 n3 (medV m3 k3) = true := fun h h' => betterV_trans h h'
    have f10 := q1.cellv 0 (v := .int .i64 o1) rfl
    have f11 := q1.cellv 1 (v := .slice A1 n1 c1) rfl
    have f12 := q1.cellv 2 (v := .int .u32 h1) rfl
    have f13 := q1.cellv 3 (v := .int .i64 m1) rfl
    have f14 := q1.cellv 4 (v := .bool k1) rfl
    have f20 := q2.cellv 0 (v := .int .i64 o2) rfl
    have f21 := q2.cellv 1 (v := .slice A2 n2 c2) rfl
    have f22 := q2.cellv 2 (v := .int .u32 h2) rfl
    have f23 := q2.cellv 3 (v := .int .i64 m2) rfl
    have f24 := q2.cellv 4 (v := .bool k2) rfl
    have f30 := q3.cellv 0 (v := .int .i64 o3) rfl
    have f31 := q3.cellv 1 (v := .slice A3 n3 c3) rfl
    have f32 := q3.cellv 2 (v := .int .u32 h3) rfl
    have f33 := q3.cellv 3 (v := .int .i64 m3) rfl
    have f34 := q3.cellv 4 (v := .bool k3) rfl
    go_wp2_with fail
    refine (refBetter_any _ _ _ _ _ _ _ _ _ _ _ _ _ _ _ l1 l2).mono ?_
    rintro e w' ⟨rfl, hx⟩
    clear f10 f11 f12 f13 f14 f20 f21 f22 f23 f24 f30 f31 f32 f33 f34
    replace q1 := q1.below hx q1.lt
    replace q2 := q2.below hx q2.lt
    replace q3 := q3.below hx q3.lt
    replace hB := hB.trans (hx.mono hB.size)
    clear hx
    have f10 := q1.cellv 0 (v := .int .i64 o1) rfl
    have f11 := q1.cellv 1 (v := .slice A1 n1 c1) rfl
    have f12 := q1.cellv 2 (v := .int .u32 h1) rfl
    have f13 := q1.cellv 3 (v := .int .i64 m1) rfl
    have f14 := q1.cellv 4 (v := .bool k1) rfl
    have f20 := q2.cellv 0 (v := .int .i64 o2) rfl
    have f21 := q2.cellv 1 (v := .slice A2 n2 c2) rfl
    have f22 := q2.cellv 2 (v := .int .u32 h2) rfl
    have f23 := q2.cellv 3 (v := .int .i64 m2) rfl
    have f24 := q2.cellv 4 (v := .bool k2) rfl
    have f30 := q3.cellv 0 (v := .int .i64 o3) rfl
    have f31 := q3.cellv 1 (v := .slice A3 n3 c3) rfl
    have f32 := q3.cellv 2 (v := .int .u32 h3) rfl
    have f33 := q3.cellv 3 (v := .int .i64 m3) rfl
    have f34 := q3.cellv 4 (v := .bool k3) rfl
    have hne : (betterV o1 n1 (medV m1 k1) o2 n2 (medV m2 k2) != betterV o1 n1 (medV m1 k1) o2 n2 (medV m2 k2)) = false := by simp
    go_wp2_with fail
    refine (better_any _ _ _ _ _ _ _ _ _ _ _ _ _ _ _ l1 l1).mono ?_
    rintro e w' ⟨rfl, hx⟩
    clear f10 f11 f12 f13 f14 f20 f21 f22 f23 f24 f30 f31 f32 f33 f34
    replace q1 := q1.below hx q1.lt
    replace q2 := q2.below hx q2.lt
    replace q3 := q3.below hx q3.lt
    replace hB := hB.trans (hx.mono hB.size)
    clear hx
    have f10 := q1.cellv 0 (v := .int .i64 o1) rfl
    have f11 := q1.cellv 1 (v := .slice A1 n1 c1) rfl
    have f12 := q1.cellv 2 (v := .int .u32 h1) rfl
    have f13 := q1.cellv 3 (v := .int .i64 m1) rfl
    have f14 := q1.cellv 4 (v := .bool k1) rfl
    have f20 := q2.cellv 0 (v := .int .i64 o2) rfl
    have f21 := q2.cellv 1 (v := .slice A2 n2 c2) rfl
    have f22 := q2.cellv 2 (v := .int .u32 h2) rfl
    have f23 := q2.cellv 3 (v := .int .i64 m2) rfl
    have f24 := q2.cellv 4 (v := .bool k2) rfl
    have f30 := q3.cellv 0 (v := .int .i64 o3) rfl
    have f31 := q3.cellv 1 (v := .slice A3 n3 c3) rfl
    have f32 := q3.cellv 2 (v := .int .u32 h3) rfl
    have f33 := q3.cellv 3 (v := .int .i64 m3) rfl
    have f34 := q3.cellv 4 (v := .bool k3) rfl
    rw [hself]
    cases hx12 : betterV o1 n1 (medV m1 k1) o2 n2 (medV m2 k2) with
    | false =>
      go_wp2_with fail
      refine (lives_any _).mono ?_
      rintro e w9 ⟨rfl, hb⟩
      go_wp2_with fail
      go_ret
      exact ⟨rfl, hB.trans (hb.mono hB.size)⟩
    | true =>
      have ha := hanti hx12
      have ht := htr hx12
      go_wp2_with fail
      refine (better_any _ _ _ _ _ _ _ _ _ _ _ _ _ _ _ l2 l1).mono ?_
      rintro e w' ⟨rfl, hx⟩
      clear f10 f11 f12 f13 f14 f20 f21 f22 f23 f24 f30 f31 f32 f33 f34
      replace q1 := q1.below hx q1.lt
      replace q2 := q2.below hx q2.lt
      replace q3 := q3.below hx q3.lt
      replace hB := hB.trans (hx.mono hB.size)
      clear hx
      have f10 := q1.cellv 0 (v := .int .i64 o1) rfl
      have f11 := q1.cellv 1 (v := .slice A1 n1 c1) rfl
      have f12 := q1.cellv 2 (v := .int .u32 h1) rfl
      have f13 := q1.cellv 3 (v := .int .i64 m1) rfl
      have f14 := q1.cellv 4 (v := .bool k1) rfl
      have f20 := q2.cellv 0 (v := .int .i64 o2) rfl
      have f21 := q2.cellv 1 (v := .slice A2 n2 c2) rfl
      have f22 := q2.cellv 2 (v := .int .u32 h2) rfl
      have f23 := q2.cellv 3 (v := .int .i64 m2) rfl
      have f24 := q2.cellv 4 (v := .bool k2) rfl
      have f30 := q3.cellv 0 (v := .int .i64 o3) rfl
      have f31 := q3.cellv 1 (v := .slice A3 n3 c3) rfl
      have f32 := q3.cellv 2 (v := .int .u32 h3) rfl
      have f33 := q3.cellv 3 (v := .int .i64 m3) rfl
      have f34 := q3.cellv 4 (v := .bool k3) rfl
      rw [ha]
      cases hx23 : betterV o2 n2 (medV m2 k2) o3 n3 (medV m3 k3) with
      | false =>
        go_wp2_with fail
        refine (lives_any _).mono ?_
        rintro e w9 ⟨rfl, hb⟩
        go_wp2_with fail
        go_ret
        exact ⟨rfl, hB.trans (hb.mono hB.size)⟩
      | true =>
        rw [ht hx23]
        go_wp2_with fail
        refine (lives_any _).mono ?_
        rintro e w9 ⟨rfl, hb⟩
        go_wp2_with fail
        go_ret
        exact ⟨rfl, hB.trans (hb.mono hB.size)⟩
theorem better_law (o1 : Int) (A1 : Option Addr) (n1 c1 : Nat) (h1 m1 : Int) (k1 : Bool) (o2 : Int) (A2 : Option Addr) (n2 c2 : Nat) (h2 m2 : Int) (k2 : Bool) (o3 : Int) (A3 : Option Addr) (n3 c3 : Nat) (h3 m3 : Int) (k3 : Bool) (w : World) (_w11 : (Lit.int .i64 o1).wf = true) (_w12 : n1 ≤ c1) (_w13 : (Lit.int .u32 h1).wf = true) (_w14 : (Lit.int .i64 m1).wf = true) (_w21 : (Lit.int .i64 o2).wf = true) (_w22 : n2 ≤ c2) (_w23 : (Lit.int .u32 h2).wf = true) (_w24 : (Lit.int .i64 m2).wf = true) (_w31 : (Lit.int .i64 o3).wf = true) (_w32 : n3 ≤ c3) (_w33 : (Lit.int .u32 h3).wf = true) (_w34 : (Lit.int .i64 m3).wf = true) :
    Calls Try.prog 3 #[.agg #[.int .i64 o1, .slice A1 n1 c1, .int .u32 h1, .int .i64 m1, .bool k1], .agg #[.int .i64 o2, .slice A2 n2 c2, .int .u32 h2, .int .i64 m2, .bool k2], .agg #[.int .i64 o3, .slice A3 n3 c3, .int .u32 h3, .int .i64 m3, .bool k3]] w fun e w' => e = .returned (.bool true) ∧ Below w.heap.size w w' :=
  better_walk o1 A1 n1 c1 h1 m1 k1 o2 A2 n2 c2 h2 m2 k2 o3 A3 n3 c3 h3 m3 k3 w
end Go.Proofs.Ythllemlkdflhkaa
