/- ports: within, head, Parse. -/
import Derived.Test.YthbfnppgaaeilaaDoorPrtC
namespace Go.Proofs.YthbfnppgaaeilaaDoor
set_option linter.unusedVariables false
open Go.RowKit

def pt16 (l : List UInt8) (k : Nat) : Int := 256 * byAt l k + byAt l (k + 1)
theorem pt16_bd (l : List UInt8) (k : Nat) : 0 ≤ pt16 l k ∧ pt16 l k ≤ 65535 := by
  have := byAt_lo l k; have := byAt_hi l k; have := byAt_lo l (k + 1); have := byAt_hi l (k + 1)
  unfold pt16; omega
def tcW (l : List UInt8) : Int := 4 * (byAt l 12 / 16)
def inE (a lo hi : Int) : Int := if a < lo ∨ hi < a then 4 else 0
def hpE (p : Int) (l : List UInt8) : Int :=
  if p = 6 then (if l.length < 20 then 3 else inE (tcW l) 20 l.length) else if p = 17 then (if l.length < 8 then 3 else inE (pt16 l 4) 8 l.length) else 2
def hpF (p : Int) (l : List UInt8) : Int := if p = 6 then byAt l 13 else 0
def pqA (p : Int) (l : List UInt8) : Int := if hpE p l = 0 then pt16 l 0 else 0
def pqB (p : Int) (l : List UInt8) : Int := if hpE p l = 0 then pt16 l 2 else 0
def pqF (p : Int) (l : List UInt8) : Int := if hpE p l = 0 then hpF p l else 0
theorem within_any (a lo hi : Int) (w : World) : Calls Tryd.prog 92 #[.int .i64 a, .int .i64 lo, .int .i64 hi] w fun e w' => e = .returned (.int .i64 (inE a lo hi)) ∧ w = w' := by
  by_cases h1 : a < lo
  · have e1 : inE a lo hi = 4 := if_pos (.inl h1)
    rw [e1]
    go_enter Tryd.func92, Tryd.ntmps92
    go_wp2_with fail
    go_ret
    exact ⟨rfl, rfl⟩
  by_cases h2 : hi < a
  · have e1 : inE a lo hi = 4 := if_pos (.inr h2)
    rw [e1]
    have h3 : lo ≤ a := by omega
    go_enter Tryd.func92, Tryd.ntmps92
    go_wp2_with fail
    go_ret
    exact ⟨rfl, rfl⟩
  have e1 : inE a lo hi = 0 := if_neg (by omega)
  rw [e1]
  have h3 : lo ≤ a := by omega
  have h4 : a ≤ hi := by omega
  go_enter Tryd.func92, Tryd.ntmps92
  go_wp2_with fail
  go_ret
  exact ⟨rfl, rfl⟩
theorem getV_pt (l : List UInt8) (k : Nat) (h : k + 2 ≤ l.length) : getV l (k : Int) 2 = pt16 l k := by
  have hf : fitsB l.length (k : Int) 2 = true := (fitsB_iff _ _ _).2 ⟨by omega, by omega⟩
  unfold getV pt16
  rw [hf]
  simp only [if_true, fromI, getN, byAt_drop]
  simp only [Int.toNat_natCast, Nat.add_zero]
  omega
set_option maxRecDepth 100000 in
set_option maxHeartbeats 4000000 in
theorem head_any (w : World) (p : Int) (A : Option Addr) (n c : Nat) (l : List UInt8) (h : Byt w w.heap.size A n l) (hc : n ≤ c) (hc2 : c ≤ maxLen) (hn : n ≤ 10000000) :
    Calls Tryd.prog 71 #[.int .i64 p, .slice A n c] w fun e w' => ∃ x, e = .returned (.tuple #[.int .i64 x, .int .i64 (hpE p l)]) ∧ (hpE p l = 0 → x = hpF p l) ∧ Below w.heap.size w w' := by
  obtain rfl : l.length = n := h.1
  by_cases h6 : p = 6
  · subst h6
    by_cases hs : l.length < 20
    · have e1 : hpE 6 l = 3 := by unfold hpE; rw [if_pos rfl, if_pos hs]
      rw [e1]
      have i1 : (l.length : Int) < 20 := by omega
      go_enter Tryd.func71, Tryd.ntmps71
      go_wp2_with fail
      go_ret2
      exact ⟨0, rfl, fun h => absurd h (by decide), Below.refl _ _⟩
    have e1 : hpE 6 l = inE (tcW l) 20 l.length := by unfold hpE; rw [if_pos rfl, if_neg hs]
    have e2 : hpF 6 l = byAt l 13 := if_pos rfl
    have i1 : (20 : Int) ≤ l.length := by omega
    have i2 : (12 : Int) < l.length := by omega
    have i3 : (13 : Int) < l.length := by omega
    have i4 : (8 : Int) ≤ l.length := by omega
    obtain ⟨b, off, rfl, hb, hcell⟩ := h.2 (by omega)
    have c2 := hcell 12 (by omega)
    have c3 := hcell 13 (by omega)
    have b20 := byAt_lo l 12
    have b21 := byAt_hi l 12
    have b30 := byAt_lo l 13
    have b31 := byAt_hi l 13
    have hsz : 4 * (byAt l 12 / 16) = tcW l := rfl
    have hw1 : IntKind.i64.wrap (byAt l 13) = byAt l 13 := IntWalk.i64_in _ (by omega)
    have hw2 : IntKind.i64.wrap (byAt l 12 / 16) = byAt l 12 / 16 := IntWalk.i64_in _ (by omega)
    have hw3 : IntKind.i64.wrap (tcW l) = tcW l := IntWalk.i64_in _ (by omega)
    clear hcell
    go_enter Tryd.func71, Tryd.ntmps71
    go_wp2_with fail
    -- region 7: 0 1 2 3 4 5 6 7 8 9 10 11 12C 13 14
    try refine wp_region_noPanic ?_
    have hs1r : Below w.heap.size w w.drew := (Below.refl _ _).drew
    refine wp_region_held_drew (S := fun w' => Below w.heap.size w w') (by kernel_rfl) hs1r (fun _ => ?_)
    (refine held_takeA 0 (by rfl) ?_ (by kernel_rfl) (fun _ _ _ h => h) hs1r ?_ ?_; rotate_left; (focus (intro wq hSw; have hrd : ∀ b o, b < w.heap.size → wq.cell? ⟨b, o, none⟩ = w.cell? ⟨b, o, none⟩ := (fun b o h => hSw.cell (p := ⟨b, o, none⟩) h); go_simp; try with_reducible rfl; done)); try simp only [Act.put, List.setIfInBounds_toArray, List.set_cons_zero, List.set_cons_succ])
    (refine held_takeA 1 (by rfl) ?_ (by kernel_rfl) (fun _ _ _ h => h) hs1r ?_ ?_; rotate_left; (focus (intro wq hSw; have hrd : ∀ b o, b < w.heap.size → wq.cell? ⟨b, o, none⟩ = w.cell? ⟨b, o, none⟩ := (fun b o h => hSw.cell (p := ⟨b, o, none⟩) h); go_simp; try with_reducible rfl; done)); try simp only [Act.put, List.setIfInBounds_toArray, List.set_cons_zero, List.set_cons_succ])
    (refine held_takeA 2 (by rfl) ?_ (by kernel_rfl) (fun _ _ _ h => h) hs1r ?_ ?_; rotate_left; (focus (intro wq hSw; have hrd : ∀ b o, b < w.heap.size → wq.cell? ⟨b, o, none⟩ = w.cell? ⟨b, o, none⟩ := (fun b o h => hSw.cell (p := ⟨b, o, none⟩) h); go_simp; try with_reducible rfl; done)); try simp only [Act.put, List.setIfInBounds_toArray, List.set_cons_zero, List.set_cons_succ])
    (refine held_takeA 3 (by rfl) ?_ (by kernel_rfl) (fun _ _ _ h => h) hs1r ?_ ?_; rotate_left; (focus (intro wq hSw; have hrd : ∀ b o, b < w.heap.size → wq.cell? ⟨b, o, none⟩ = w.cell? ⟨b, o, none⟩ := (fun b o h => hSw.cell (p := ⟨b, o, none⟩) h); go_simp; try with_reducible rfl; done)); try simp only [Act.put, List.setIfInBounds_toArray, List.set_cons_zero, List.set_cons_succ])
    (refine held_takeA 4 (by rfl) ?_ (by kernel_rfl) (fun _ _ _ h => h) hs1r ?_ ?_; rotate_left; (focus (intro wq hSw; have hrd : ∀ b o, b < w.heap.size → wq.cell? ⟨b, o, none⟩ = w.cell? ⟨b, o, none⟩ := (fun b o h => hSw.cell (p := ⟨b, o, none⟩) h); go_simp; try with_reducible rfl; done)); try simp only [Act.put, List.setIfInBounds_toArray, List.set_cons_zero, List.set_cons_succ])
    (refine held_takeA 5 (by rfl) ?_ (by kernel_rfl) (fun _ _ _ h => h) hs1r ?_ ?_; rotate_left; (focus (intro wq hSw; have hrd : ∀ b o, b < w.heap.size → wq.cell? ⟨b, o, none⟩ = w.cell? ⟨b, o, none⟩ := (fun b o h => hSw.cell (p := ⟨b, o, none⟩) h); go_simp; try with_reducible rfl; done)); try simp only [Act.put, List.setIfInBounds_toArray, List.set_cons_zero, List.set_cons_succ])
    (refine held_takeA 6 (by rfl) ?_ (by kernel_rfl) (fun _ _ _ h => h) hs1r ?_ ?_; rotate_left; (focus (intro wq hSw; have hrd : ∀ b o, b < w.heap.size → wq.cell? ⟨b, o, none⟩ = w.cell? ⟨b, o, none⟩ := (fun b o h => hSw.cell (p := ⟨b, o, none⟩) h); go_simp; try with_reducible rfl; done)); try simp only [Act.put, List.setIfInBounds_toArray, List.set_cons_zero, List.set_cons_succ])
    (refine held_takeA 7 (by rfl) ?_ (by kernel_rfl) (fun _ _ _ h => h) hs1r ?_ ?_; rotate_left; (focus (intro wq hSw; have hrd : ∀ b o, b < w.heap.size → wq.cell? ⟨b, o, none⟩ = w.cell? ⟨b, o, none⟩ := (fun b o h => hSw.cell (p := ⟨b, o, none⟩) h); go_simp; try with_reducible rfl; done)); try simp only [Act.put, List.setIfInBounds_toArray, List.set_cons_zero, List.set_cons_succ])
    (refine held_takeA 8 (by rfl) ?_ (by kernel_rfl) (fun _ _ _ h => h) hs1r ?_ ?_; rotate_left; (focus (intro wq hSw; have hrd : ∀ b o, b < w.heap.size → wq.cell? ⟨b, o, none⟩ = w.cell? ⟨b, o, none⟩ := (fun b o h => hSw.cell (p := ⟨b, o, none⟩) h); go_simp; try with_reducible rfl; done)); try simp only [Act.put, List.setIfInBounds_toArray, List.set_cons_zero, List.set_cons_succ])
    (refine held_takeA 9 (by rfl) ?_ (by kernel_rfl) (fun _ _ _ h => h) hs1r ?_ ?_; rotate_left; (focus (intro wq hSw; have hrd : ∀ b o, b < w.heap.size → wq.cell? ⟨b, o, none⟩ = w.cell? ⟨b, o, none⟩ := (fun b o h => hSw.cell (p := ⟨b, o, none⟩) h); go_simp; try with_reducible rfl; done)); try simp only [Act.put, List.setIfInBounds_toArray, List.set_cons_zero, List.set_cons_succ])
    (refine held_takeA 10 (by rfl) ?_ (by kernel_rfl) (fun _ _ _ h => h) hs1r ?_ ?_; rotate_left; (focus (intro wq hSw; have hrd : ∀ b o, b < w.heap.size → wq.cell? ⟨b, o, none⟩ = w.cell? ⟨b, o, none⟩ := (fun b o h => hSw.cell (p := ⟨b, o, none⟩) h); go_simp; try with_reducible rfl; done)); try simp only [Act.put, List.setIfInBounds_toArray, List.set_cons_zero, List.set_cons_succ])
    (refine held_takeA 11 (by rfl) ?_ (by kernel_rfl) (fun _ _ _ h => h) hs1r ?_ ?_; rotate_left; (focus (intro wq hSw; have hrd : ∀ b o, b < w.heap.size → wq.cell? ⟨b, o, none⟩ = w.cell? ⟨b, o, none⟩ := (fun b o h => hSw.cell (p := ⟨b, o, none⟩) h); go_simp; try with_reducible rfl; done)); try simp only [Act.put, List.setIfInBounds_toArray, List.set_cons_zero, List.set_cons_succ])
    refine held_callA 12 (by rfl) (by kernel_rfl) (by rfl) (fun KQ hKQ => ?_)
    go_simp
    refine (within_any _ _ _ _).mono ?_
    rintro e w' ⟨rfl, rfl⟩
    have hs2r := hs1r
    refine hKQ.out _ _ hs2r ?_
    clear hKQ KQ
    try simp only [Act.put, List.setIfInBounds_toArray, List.set_cons_zero, List.set_cons_succ]
    (refine held_takeA 13 (by rfl) ?_ (by kernel_rfl) (fun _ _ _ h => h) hs2r ?_ ?_; rotate_left; (focus (intro wq hSw; have hrd : ∀ b o, b < w.heap.size → wq.cell? ⟨b, o, none⟩ = w.cell? ⟨b, o, none⟩ := (fun b o h => hSw.cell (p := ⟨b, o, none⟩) h); go_simp; try with_reducible rfl; done)); try simp only [Act.put, List.setIfInBounds_toArray, List.set_cons_zero, List.set_cons_succ])
    (refine held_takeA 14 (by rfl) ?_ (by kernel_rfl) (fun _ _ _ h => h) hs2r ?_ ?_; rotate_left; (focus (intro wq hSw; have hrd : ∀ b o, b < w.heap.size → wq.cell? ⟨b, o, none⟩ = w.cell? ⟨b, o, none⟩ := (fun b o h => hSw.cell (p := ⟨b, o, none⟩) h); go_simp; try with_reducible rfl; done)); try simp only [Act.put, List.setIfInBounds_toArray, List.set_cons_zero, List.set_cons_succ])
    refine wpAnyH_done (by kernel_rfl) ?_ _
    try refine NoPanic.normal ?_
    go_wp2_with fail
    go_ret2
    exact ⟨_, tuple2 e1.symm, fun _ => e2.symm, (Below.refl _ _).drew⟩
  by_cases h17 : p = 17
  · subst h17
    by_cases hs : l.length < 8
    · have e1 : hpE 17 l = 3 := by unfold hpE; rw [if_neg (by decide), if_pos rfl, if_pos hs]
      rw [e1]
      have i1 : (l.length : Int) < 8 := by omega
      go_enter Tryd.func71, Tryd.ntmps71
      go_wp2_with fail
      go_ret2
      exact ⟨0, rfl, fun h => absurd h (by decide), Below.refl _ _⟩
    have e1 : hpE 17 l = inE (pt16 l 4) 8 l.length := by unfold hpE; rw [if_neg (by decide), if_pos rfl, if_neg hs]
    have e2 : hpF 17 l = 0 := if_neg (by decide)
    have i1 : (8 : Int) ≤ l.length := by omega
    have hgv : getV l 4 2 = pt16 l 4 := getV_pt l 4 (by omega)
    have hfi : fitsB l.length 4 2 = true := (fitsB_iff _ _ _).2 ⟨by omega, by omega⟩
    replace hgv := Lib.hid hgv
    replace hfi := Lib.hid hfi
    go_enter Tryd.func71, Tryd.ntmps71
    go_wp2_with fail
    refine (get16_any w A l.length c l _ h hc hc2 4 (by omega)).mono ?_
    rintro e w' ⟨rfl, rfl⟩
    rw [hgv.out, hfi.out]
    go_wp2_with fail
    refine (within_any _ _ _ _).mono ?_
    rintro e w' ⟨rfl, rfl⟩
    go_wp2_with fail
    go_ret2
    exact ⟨_, tuple2 e1.symm, fun _ => e2.symm, Below.refl _ _⟩
  have e1 : hpE p l = 2 := by unfold hpE; rw [if_neg h6, if_neg h17]
  rw [e1]
  have b6 : (p != 6) = true := by simpa using h6
  have b17 : (p != 17) = true := by simpa using h17
  go_enter Tryd.func71, Tryd.ntmps71
  go_wp2_with fail
  go_ret2
  exact ⟨0, rfl, fun h => absurd h (by decide), Below.refl _ _⟩
theorem hpE_len {p : Int} {l : List UInt8} (h : hpE p l = 0) : 8 ≤ l.length := by
  unfold hpE at h
  split at h
  · split at h <;> omega
  · split at h
    · split at h <;> omega
    · omega
theorem tuple4 {a b c d a' b' c' d' : Int} (h1 : a = a') (h2 : b = b') (h3 : c = c') (h4 : d = d') : Ending.returned (.tuple #[.int .i64 a, .int .i64 b, .int .i64 c, .int .i64 d]) = .returned (.tuple #[.int .i64 a', .int .i64 b', .int .i64 c', .int .i64 d']) := by
  rw [h1, h2, h3, h4]
theorem results_tmp4 {fn : Func} {t u v x : Tmp} (h : fn.results = #[.tmp t, .tmp u, .tmp v, .tmp x]) (tmps : Array Value) (P : Program) (w : World) :
    (results fn tmps).run P w = .ok (.tuple #[tmps.getD t undef, tmps.getD u undef, tmps.getD v undef, tmps.getD x undef]) w := by
  simp [results, h]
set_option maxRecDepth 100000 in
set_option maxHeartbeats 4000000 in
theorem portsParse_any (w : World) (p : Int) (A : Option Addr) (n c : Nat) (l : List UInt8) (h : Byt w w.heap.size A n l) (hc : n ≤ c) (hc2 : c ≤ maxLen) (hn : n ≤ 10000000) :
    Calls Tryd.prog 51 #[.int .i64 p, .slice A n c] w fun e w' => e = .returned (.tuple #[.int .i64 (pqA p l), .int .i64 (pqB p l), .int .i64 (pqF p l), .int .i64 (hpE p l)]) ∧ Below w.heap.size w w' := by
  obtain rfl : l.length = n := h.1
  go_enter Tryd.func51, Tryd.ntmps51
  go_wp2_with fail
  refine (head_any w p A l.length c l h hc hc2 hn).mono ?_
  rintro e w1 ⟨x, rfl, hx, hB⟩
  by_cases he : hpE p l = 0
  rotate_left
  · have hb : (hpE p l != 0) = true := by simpa using he
    have e1 : pqA p l = 0 := if_neg he
    have e2 : pqB p l = 0 := if_neg he
    have e3 : pqF p l = 0 := if_neg he
    clear hx
    replace he := Lib.hid he
    replace e1 := Lib.hid e1
    replace e2 := Lib.hid e2
    replace e3 := Lib.hid e3
    go_wp2_with fail
    ((try simp only [Exit.inBlock, Exit.then]); refine bodyPost_ret (results_tmp4 rfl _ _ _) rfl ?_)
    exact ⟨tuple4 e1.out.symm e2.out.symm e3.out.symm rfl, hB⟩
  have h8 := hpE_len he
  have e1 : pqA p l = pt16 l 0 := if_pos he
  have e2 : pqB p l = pt16 l 2 := if_pos he
  have e3 : pqF p l = x := (if_pos he).trans (hx he).symm
  rw [he]
  have g0 : getV l 0 2 = pt16 l 0 := getV_pt l 0 (by omega)
  have g2 : getV l 2 2 = pt16 l 2 := getV_pt l 2 (by omega)
  clear hx
  replace e1 := Lib.hid e1
  replace e2 := Lib.hid e2
  replace e3 := Lib.hid e3
  replace he := Lib.hid he
  replace h8 := Lib.hid h8
  replace g0 := Lib.hid g0
  replace g2 := Lib.hid g2
  have hI := h.nx hB
  go_wp2_with fail
  refine (get16_any w1 A l.length c l _ hI hc hc2 0 (by omega)).mono ?_
  rintro e w' ⟨rfl, rfl⟩
  rw [g0.out]
  go_wp2_with fail
  refine (get16_any w1 A l.length c l _ hI hc hc2 2 (by omega)).mono ?_
  rintro e w' ⟨rfl, rfl⟩
  rw [g2.out]
  go_wp2_with fail
  ((try simp only [Exit.inBlock, Exit.then]); refine bodyPost_ret (results_tmp4 rfl _ _ _) rfl ?_)
  exact ⟨tuple4 e1.out.symm e2.out.symm e3.out.symm he.out.symm, hB⟩
end Go.Proofs.YthbfnppgaaeilaaDoor
