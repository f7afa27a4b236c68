/- ip: seal. ip: seal, whole. ip: Build. -/
import Derived.Test.YthbfnppgaaeilaaDoorIpA
import Derived.Test.YthbfnppgaaeilaaDoorChk
import Derived.Test.YthbfnppgaaeilaaDoorLib
import Derived.Test.YthbfnppgaaeilaaDoorWirr
namespace Go.Proofs.YthbfnppgaaeilaaDoor
set_option linter.unusedVariables false
open Go.RowKit

/-- two bytes laid over a list at place 10. -/
def set10 (l : List UInt8) (x : Int) : List UInt8 := l.take 10 ++ (be x 2 ++ l.drop 12)
theorem set10_len (l : List UInt8) (x : Int) (h : 12 ≤ l.length) : (set10 l x).length = l.length := by
  simp [set10, be_len]; omega
theorem take_three {α : Type} (A B C : List α) (n : Nat) (hA : A.length = 10) (hB : B.length = 2) (hn : 12 ≤ n) : (A ++ (B ++ C)).take n = A ++ (B ++ C.take (n - 12)) := by
  rw [← List.append_assoc, ← List.append_assoc, List.take_append, List.take_of_length_le (by simp; omega)]
  congr 2
  simp; omega
theorem set10_set10 (l : List UInt8) (x y : Int) (h : 12 ≤ l.length) : set10 (set10 l x) y = set10 l y := by
  have e1 : (l.take 10 ++ (be x 2 ++ l.drop 12)).take 10 = l.take 10 := by
    rw [List.take_append_of_le_length (by simp; omega), List.take_take]; simp
  have e2 : (l.take 10 ++ (be x 2 ++ l.drop 12)).drop 12 = l.drop 12 := by
    rw [← List.append_assoc, List.drop_left' (by simp [be_len]; omega)]
  unfold set10
  rw [e1, e2]

/-- copy(b[10:], x) where x is two bytes. -/
theorem row_set10 {w w' w3 : World} {base g n cap : Nat} {l : List UInt8} (h0 : OwnB w base (.slice (some ⟨g, 0, none⟩) n cap) n l) (x : Int) (h12 : 12 ≤ n) (cur : Array Value)
    (h : OwnB w3 base (.slice (some ⟨g, 0, none⟩) n cap) n l) (hs : cur.size = cap) (ht : cur.toList.take n = bvs l) (hm : cap ≤ maxLen) (hb : base ≤ g) (hnc : n ≤ cap)
    (hw' : w'.heap[g]? = some (.cells (splice cur.toList 10 (bvs (be x 2))).toArray 5 (0, 0))) : OwnB w' base (.slice (some ⟨g, 0, none⟩) n cap) n (set10 l x) := by
  have hl : l.length = n := h.len
  have h2 : (bvs (be x 2)).length = 2 := by rw [bvs_len, be_len]
  have hcl : cur.toList.length = cap := by simpa using hs
  refine ⟨by rw [bvs_len, set10_len _ _ (by omega)]; omega, .inr ⟨g, cap, _, rfl, hb, hw', hnc, hm, ?_, ?_⟩⟩
  · have := length_splice cur.toList 10 (bvs (be x 2)) (by omega)
    simp only [List.size_toArray, this]; omega
  · simp only [Nat.mul_one]
    unfold splice set10
    rw [bvs_app, bvs_app, h2]
    have e1 : bvs (l.take 10) = cur.toList.take 10 := by
      rw [show bvs (l.take 10) = (bvs l).take 10 from by simp [bvs, List.map_take], ← ht, List.take_take]
      congr 1; omega
    have e2 : bvs (l.drop 12) = (cur.toList.drop 12).take (n - 12) := by
      rw [show bvs (l.drop 12) = (bvs l).drop 12 from by simp [bvs, List.map_drop], ← ht, List.drop_take]
    rw [e1, e2, take_three _ _ _ n (by simp; omega) h2 h12]

theorem grown_setRow {a w : World} {g : Nat} (h : a.grownBy w (some g)) (cs : Array Value) : a.grownBy (w.setRow g cs) (some g) :=
  ⟨h.os, h.tape, h.output, by simpa [World.setRow] using h.size, fun k hk hne => (setRow_other w g k cs (fun e => hne (by rw [e]))).trans (h.block k hk hne)⟩

set_option maxHeartbeats 2000000 in
theorem seal1_any (w : World) (base bx g n cap : Nat) (l : List UInt8) (x : Int) (h : OwnB w base (.slice (some ⟨g, 0, none⟩) n cap) n l) (h12 : 12 ≤ n) (hn : n ≤ 10000000)
    (hbx : w.cell? ⟨bx, 0, none⟩ = some (.slice (some ⟨g, 0, none⟩) n cap)) (hne : bx ≠ g) :
    Calls Tryd.prog 96 #[.int .i64 10, .int .i64 x, .pointer (some ⟨bx, 0, none⟩)] w fun e w' => e = .returned (.tuple #[]) ∧ OwnB w' base (.slice (some ⟨g, 0, none⟩) n cap) n (set10 l (x % 18446744073709551616)) ∧ w.grownBy w' (some g) := by
  have hbl := lt_of_cell hbx
  have hgl : g < w.heap.size := (World.ownsRow.lt h g rfl).2
  obtain ⟨_, _, e0, hbg, _, hc0, hm0⟩ := h.form (by omega)
  injection e0 with e0 _ e1
  injection e0 with e0
  injection e0 with e0
  subst e0 e1
  have hsl : ∀ w, (Instr.slice 43 (.slice (some ⟨g, 0, none⟩) n cap) (some (.int .i64 10)) none none).run Tryd.prog w = .ok (.slice (some ⟨g, 10, none⟩) (n - 10) (cap - 10)) w := fun w => by
    have := slice_lo g 0 n cap 10 (by omega) (by omega) w
    simpa using this
  go_enter Tryd.func96, Tryd.ntmps96
  go_wp2_with fail
  try refine wp_region_noPanic ?_
  have hs0 : w.drew.cell? ⟨bx, 0, none⟩ = some (.slice (some ⟨g, 0, none⟩) n cap) := hbx
  refine wp_region_held_drew (S := fun w' => w'.cell? ⟨bx, 0, none⟩ = some (.slice (some ⟨g, 0, none⟩) n cap)) (by kernel_rfl) hs0 (fun _ => ?_)
  refine held_take 0 (by decide) ?v0 (by kernel_rfl) (by kernel_rfl) (by kernel_rfl) (fun _ _ _ h => h) (by rfl) ?y0 hs0 ?r0
  case y0 =>
    intro wq hSw
    simp only [List.getElem_cons_zero]
    have hc : wq.cell? ⟨bx, 0, none⟩ = some (.slice (some ⟨g, 0, none⟩) n cap) := hSw
    go_simp
    try with_reducible rfl
  case r0 =>
  simp only [List.getElem_cons_zero, Act.put, List.setIfInBounds_toArray, List.set_cons_zero, List.set_cons_succ]
  refine held_take 1 (by decide) ?v1 (by kernel_rfl) (by kernel_rfl) (by kernel_rfl) (fun _ _ _ h => h) (by rfl) ?y1 hs0 ?r1
  case y1 =>
    intro wq hSw
    simp only [List.getElem_cons_succ, List.getElem_cons_zero]
    go_simp
    try with_reducible rfl
  case r1 =>
  simp only [List.getElem_cons_succ, List.getElem_cons_zero, Act.put, List.setIfInBounds_toArray, List.set_cons_zero, List.set_cons_succ]
  refine held_take 2 (by decide) ?v2 (by kernel_rfl) (by kernel_rfl) (by kernel_rfl) (fun _ _ _ h => h) (by rfl) ?y2 hs0 ?r2
  case y2 =>
    intro wq hSw
    simp only [List.getElem_cons_succ, List.getElem_cons_zero]
    go_simp
    try with_reducible rfl
  case r2 =>
  simp only [List.getElem_cons_succ, List.getElem_cons_zero, Act.put, List.setIfInBounds_toArray, List.set_cons_zero, List.set_cons_succ]
  refine held_take 3 (by decide) ?v3 (by kernel_rfl) (by kernel_rfl) (by kernel_rfl) (fun _ _ _ h => h) (by rfl) ?y3 hs0 ?r3
  case y3 =>
    intro wq hSw
    simp only [List.getElem_cons_succ, List.getElem_cons_zero]
    go_simp
    try with_reducible rfl
  case r3 =>
  simp only [List.getElem_cons_succ, List.getElem_cons_zero, Act.put, List.setIfInBounds_toArray, List.set_cons_zero, List.set_cons_succ]
  have hB0 : Below w.drew.heap.size w w.drew := (Below.refl w.heap.size w).drew
  refine held_call 4 (by decide) (by kernel_rfl) (by rfl) (fun K hK => ?_)
  simp only [List.getElem_cons_succ, List.getElem_cons_zero]
  go_simp
  refine (put16_any w.drew none 0 0 [] 0 Byt.none_ (by omega) (by omega) x).mono ?_
  rintro e w3 ⟨u3, rfl, hown3, hb3⟩
  rw [List.nil_append] at hown3
  obtain ⟨g3, c3, rfl, hg3, hgs3, _, _⟩ := hown3.form (by omega)
  have hc3 := (hb3.cell (p := ⟨bx, 0, none⟩) hbl).trans hs0
  have hw3 := h.drew.below hb3
  refine hK.out _ _ hc3 ?_
  clear hK K
  obtain ⟨hxl, hrow⟩ := hw3
  rcases hrow with ⟨q, _⟩ | ⟨gg, cc, cur, q, hbb, hcur, hnc, hcm, hcs, htk⟩
  · cases q
  injection q with q1 _ q2
  injection q1 with q1
  injection q1 with q1
  subst q1 q2
  rw [Nat.mul_one] at hcs htk
  have hsrc : ∀ j v, (bvs (be (x % 18446744073709551616) 2))[j]? = some v → w3.cell? ((⟨g3, 0, none⟩ : Addr).add j) = some v := fun j v hj => by
    have hjl : j < (be (x % 18446744073709551616) 2).length := by have := (List.getElem?_eq_some_iff.1 hj).1; rwa [bvs_len] at this
    rw [Go.WideShapes.add_plain, ← hj, bvs_get _ j hjl, Nat.zero_add]
    exact hown3.cell j (by rw [be_len] at hjl; omega)
  have hmin : (bvs (be (x % 18446744073709551616) 2)).length = Nat.min (0 + 2) (n - 10) := by
    rw [bvs_len, be_len]
    exact (Nat.min_eq_left (by omega)).symm
  refine held_call 5 (by decide) (by kernel_rfl) (by rfl) (fun K hK => ?_)
  simp only [List.getElem_cons_succ, List.getElem_cons_zero]
  refine wp_copy_own (.tmp 7) (.tmp 9) 43 43 (by rfl) 5 Tryd.underlying43 (by kernel_rfl) g 10 (n - 10) (cap - 10) ⟨g3, 0, none⟩ (0 + 2) c3 (by rfl) (by rfl) cur 5 hcur (bvs (be (x % 18446744073709551616) 2)) hmin hsrc (by rw [bvs_len, be_len]; omega) (bvs_one _) ?_
  refine hK.out _ _ ?_ ?_
  · have e := setRow_other w3 g bx (splice cur.toList 10 (bvs (be (x % 18446744073709551616) 2))).toArray hne
    rw [← hc3]
    unfold World.cell?
    rw [e]
  · clear hK K
    refine wpAnyH_done (by kernel_rfl) ?_ _
    try refine NoPanic.normal ?_
    go_wp2_with fail
    go_end0
    exact ⟨rfl, row_set10 h _ h12 cur ⟨hxl, .inr ⟨g, cap, cur, rfl, hbb, hcur, hnc, hcm, by simpa using hcs, by simpa using htk⟩⟩ hcs htk hcm hbb hnc (setRow_heap w3 g cur _ _ _ hcur), grown_setRow (grown_of (hB0.trans hb3) (Nat.le_refl _) _) _⟩
end Go.Proofs.YthbfnppgaaeilaaDoor

namespace Go.Proofs.YthbfnppgaaeilaaDoor
set_option linter.unusedVariables false
open Go.RowKit

/-- the sum that a head of size bytes gets. -/
def sealV (l : List UInt8) (size : Nat) : Int := 65535 - csum ((set10 l 0).take size)
set_option maxHeartbeats 2000000 in
theorem seal_any (w : World) (base g n cap : Nat) (l : List UInt8) (size : Nat) (h : OwnB w base (.slice (some ⟨g, 0, none⟩) n cap) n l) (h12 : 12 ≤ n) (hs : size ≤ n) (hn : n ≤ 10000000) :
    Calls Tryd.prog 77 #[.slice (some ⟨g, 0, none⟩) n cap, .int .i64 (size : Int)] w fun e w' => e = .returned (.tuple #[]) ∧ OwnB w' base (.slice (some ⟨g, 0, none⟩) n cap) n (set10 l (sealV l size)) ∧ w.grownBy w' (some g) := by
  have hl := h.len
  have hgl : g < w.heap.size := (World.ownsRow.lt h g rfl).2
  have hb := Blk.new w 43 #[.slice (some ⟨g, 0, none⟩) n cap]
  have h0 := h.alloc (.cells #[.slice (some ⟨g, 0, none⟩) n cap] 43)
  have hg0 := grown_alloc (grown_refl w (some g)) (.cells #[.slice (some ⟨g, 0, none⟩) n cap] 43)
  obtain ⟨_, _, e0, hbg, _, hc0, hm0⟩ := h.form (by omega)
  injection e0 with e0 _ e1
  injection e0 with e0
  injection e0 with e0
  subst e0 e1
  have hsl := slice_hi g 0 n cap size (by omega)
  go_enter Tryd.func77, Tryd.ntmps77
  go_wp2_with fail
  refine (seal1_any _ base w.heap.size g n cap l 0 h0 h12 hn (hb.cellv 0 rfl) (by omega)).mono ?_
  rintro e w1 ⟨rfl, h1, hg1⟩
  have hb1 := hb.grown hg1 (by simp; omega)
  have c0 := hb1.cellv 0 (v := .slice (some ⟨g, 0, none⟩) n cap) rfl
  have hz : (0 : Int) % 18446744073709551616 = 0 := by decide
  rw [hz] at h1
  have hby := h1.byt.take (m := size) hs
  go_wp2_with fail
  refine (of_any _ size cap _ (by omega) w1 hby).mono ?_
  rintro e w2 ⟨rfl, hb2⟩
  have h2 := h1.below hb2
  have hb3 := hb1.below hb2 hb1.lt
  have v1 := csum_lo ((set10 l 0).take size)
  have v2 := csum_hi ((set10 l 0).take size)
  go_wp2_with fail
  refine (seal1_any w2 base w.heap.size g n cap _ _ h2 h12 hn (hb3.cellv 0 rfl) (by omega)).mono ?_
  rintro e w3 ⟨rfl, h3, hg3⟩
  go_wp2_with fail
  go_end0
  refine ⟨rfl, ?_, grown_trans (grown_trans (grown_trans hg0 hg1) (grown_of hb2 (Nat.le_refl _) _)) hg3⟩
  rw [set10_set10 _ _ _ (by omega), Int.emod_eq_of_lt (by omega) (by omega)] at h3
  exact h3
end Go.Proofs.YthbfnppgaaeilaaDoor

namespace Go.Proofs.YthbfnppgaaeilaaDoor
set_option linter.unusedVariables false
open Go.RowKit

theorem or64 (x : Int) (h0 : 0 ≤ x) (h1 : x ≤ 63) : bits .or .i64 64 x = 64 + x := by
  obtain ⟨a, rfl⟩ := Int.eq_ofNat_of_zero_le h0
  show IntKind.i64.wrap ((BitVec.ofInt 64 64 ||| BitVec.ofInt 64 (a : Int)).toNat : Int) = _
  have hb : (BitVec.ofInt 64 (a : Int)).toNat = a := by rw [BitVec.toNat_ofInt]; omega
  have ha : (BitVec.ofInt 64 64).toNat = 64 := by decide
  rw [BitVec.toNat_or, ha, hb, IntKind.wrap_i64]
  have h2 : 64 ||| a = 64 + a := by
    have := Nat.two_pow_add_eq_or_of_lt (i := 6) (b := a) (by omega) 1
    simpa using this.symm
  rw [h2]; omega
theorem or13 (f g : Int) (f0 : 0 ≤ f) (f1 : f ≤ 7) (g0 : 0 ≤ g) (g1 : g ≤ 8191) : bits .or .i64 (f * 8192) g = f * 8192 + g := by
  obtain ⟨a, rfl⟩ := Int.eq_ofNat_of_zero_le f0
  obtain ⟨b, rfl⟩ := Int.eq_ofNat_of_zero_le g0
  show IntKind.i64.wrap ((BitVec.ofInt 64 ((a : Int) * 8192) ||| BitVec.ofInt 64 (b : Int)).toNat : Int) = _
  have ha : (BitVec.ofInt 64 ((a : Int) * 8192)).toNat = a * 8192 := by rw [BitVec.toNat_ofInt]; omega
  have hb : (BitVec.ofInt 64 (b : Int)).toNat = b := by rw [BitVec.toNat_ofInt]; omega
  rw [BitVec.toNat_or, ha, hb, IntKind.wrap_i64]
  have h2 : a * 8192 ||| b = a * 8192 + b := by
    have := Nat.two_pow_add_eq_or_of_lt (i := 13) (b := b) (by omega) a
    rw [Nat.mul_comm] at this
    exact this.symm
  rw [h2]; omega

def Hdr (t i f g l p s d : Int) (A : Option Addr) (n c : Nat) : Value := .agg #[.int .i64 t, .int .i64 i, .int .i64 f, .int .i64 g, .int .i64 l, .int .i64 p, .int .u32 s, .int .u32 d, .slice A n c]
set_option maxHeartbeats 2000000 in
theorem build_no (t i f g l p s d : Int) (A : Option Addr) (n c : Nat) (X : Option Addr) (m k : Nat) (w : World) (hn : n ≤ 300) (hm : m ≤ 12000) (hno : goodH t i f g l p n = false ∨ 8980 < m + n) :
    Calls Tryd.prog 55 #[.agg #[.int .i64 t, .int .i64 i, .int .i64 f, .int .i64 g, .int .i64 l, .int .i64 p, .int .u32 s, .int .u32 d, .slice A n c], .slice X m k] w fun e w' => e = .returned (.slice none 0 0) ∧ Below w.heap.size w w' := by
  have hk := Blk.new w 83 (hdrCs t i f g l p s d A n c)
  have hB := (Below.refl w.heap.size w).alloc (Nat.le_refl _) (.cells (hdrCs t i f g l p s d A n c) 83)
  go_enter Tryd.func55, Tryd.ntmps55
  go_wp2_with fail
  refine (ipGood_any t i f g l p s d A n c _ hn).mono ?_
  rintro e w1 ⟨rfl, hb⟩
  cases hg : goodH t i f g l p n with
  | false =>
    go_wp2_with fail
    go_ret
    exact ⟨rfl, hB.trans (hb.mono hB.size)⟩
  | true =>
    have hlt : 8980 < m + n := by
      rcases hno with h | h
      · rw [hg] at h; cases h
      · exact h
    have hlt' : (9000 : Int) - (20 + n) < (m : Int) := by omega
    go_wp2_with fail
    go_ret
    exact ⟨rfl, hB.trans (hb.mono hB.size)⟩

end Go.Proofs.YthbfnppgaaeilaaDoor
