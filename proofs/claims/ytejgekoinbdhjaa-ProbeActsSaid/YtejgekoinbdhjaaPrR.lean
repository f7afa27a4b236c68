/- probe: light; both schedulers in one word; act. -/
import Derived.Test.YtejgekoinbdhjaaPrQ
import Derived.Test.YtejgekoinbdhjaaPrP
import Derived.Test.YtejgekoinbdhjaaPrL
import Derived.Test.YtejgekoinbdhjaaAct3
namespace Go.Proofs.Ytejgekoinbdhjaa
set_option linter.unusedVariables false
open Go Go.RowKit Go.Maps

def lightB (rs : List Act3) : Bool := decide (rs.length ≤ 80) && rs.all fun a => decide (¬ (a.k = 2 ∧ 100 < a.n))
theorem light_le {rs : List Act3} (h : lightB rs = true) : rs.length ≤ 80 ∧ ∀ a ∈ rs, a.k = 2 → a.n ≤ 100 := by
  unfold lightB at h
  simp only [Bool.and_eq_true, decide_eq_true_eq, List.all_eq_true] at h
  exact ⟨h.1, fun a ha hk => by have := h.2 a ha; omega⟩
theorem light_no {rs : List Act3} {k : Nat} {a : Act3} (ha : rs[k]? = some a) (h : a.k = 2 ∧ 100 < a.n) : lightB rs = false := by
  cases hb : lightB rs with
  | false => rfl
  | true =>
    have := (light_le hb).2 a (List.mem_of_getElem? ha) h.1
    omega
set_option maxRecDepth 100000 in
set_option maxHeartbeats 4000000 in
theorem light24_any (w : World) (S : Nat → Prop) (A : Option Addr) (n c : Nat) (rs : List Act3) (hx : Seen act3K w S A n rs) (hS : ∀ b, S b → b < w.heap.size) :
    Calls Try.prog 80 #[.slice A n c] w fun e w' => e = .returned (.bool (lightB rs)) ∧ Below w.heap.size w w' := by
  have hl := Lib.hid hx.1
  go_enter Try.func80, Try.ntmps80
  by_cases hbig : 80 < n
  · have d1 : decide ((80 : Int) < n) = true := by simp; omega
    have e := Lib.hid (show lightB rs = false by unfold lightB; rw [decide_eq_false (by rw [hl.out]; omega)]; rfl)
    go_wp2_with fail
    go_ret
    exact ⟨ret_bool e.out.symm, Below.refl _ _⟩
  have hn1 : n ≤ 80 := by omega
  have d1 : decide ((80 : Int) < n) = false := by simp; omega
  clear hbig
  go_wp2_with fail
  go_loopw [4, 10] (fun _ i wr => ∃ (k : Nat), k ≤ n ∧ i = .int .i64 (k : Int) ∧ (∀ j a, j < k → rs[j]? = some a → ¬ (a.k = 2 ∧ 100 < a.n)) ∧ Below w.heap.size w wr) (fun _ i _ => n - (intOf i).toNat)
  case atStart => exact ⟨0, Nat.zero_le _, rfl, fun j a hj => by omega, Below.refl _ _⟩
  case round =>
  obtain ⟨k, hk, rfl, hkey, hB⟩ := hrel
  replace hkey := Lib.hid hkey
  have hz := hB.size
  by_cases hlt : k < n
  · obtain ⟨b, off, a, rfl, hb1, hka, hin, q0, q1, q2⟩ := act3_cells (hx.below hB hS) hlt
    have lb1 : b < wr.heap.size := Nat.lt_of_lt_of_le (hS _ hb1) hz
    have hki : (k : Int) < n := by omega
    replace hin := Lib.hid hin
    have hbx := (Below.refl wr.heap.size wr).alloc (Nat.le_refl _) (.cells #[.int .i64 a.k, .int .i64 a.id, .int .i64 a.n] 116)
    have hqx := Blk.new wr 116 #[.int .i64 a.k, .int .i64 a.id, .int .i64 a.n]
    go_upto_region 6 with (fail)
    clear q0 q1 q2
    generalize wr.alloc (.cells #[.int .i64 a.k, .int .i64 a.id, .int .i64 a.n] 116) = w3 at *
    have s0 : w3.cell? ⟨wr.heap.size, 0, none⟩ = some (.int .i64 a.k) := hqx.cellv 0 rfl
    have s2 : w3.cell? ⟨wr.heap.size, 2, none⟩ = some (.int .i64 a.n) := hqx.cellv 2 rfl
    have ltq := hqx.lt
    have hB3 := hB.trans (hbx.mono hz)
    clear hbx hqx
    have next : ∀ hn : ¬ (a.k = 2 ∧ 100 < a.n), ∀ j x, j < k + 1 → rs[j]? = some x → ¬ (x.k = 2 ∧ 100 < x.n) := fun hn j x hj hx2 => by
      by_cases e : j = k
      · rw [e, hka] at hx2; injection hx2 with hx2; rw [← hx2]; exact hn
      · exact hkey.out j x (by omega) hx2
    by_cases hk3 : a.k = 2
    · by_cases hbg : 100 < a.n
      · have e2 := Lib.hid (light_no hka ⟨hk3, hbg⟩)
        have t1 : (a.k == 2) = true := by simpa using hk3
        have t3 : decide (100 < a.n) = true := by simpa using hbg
        clear hk3 hbg next
        go_wp2_with fail
        go_ret
        exact ⟨ret_bool e2.out.symm, hB3⟩
      · have e2 := Lib.hid (next fun q => hbg q.2)
        have t1 : (a.k == 2) = true := by simpa using hk3
        have t3 : decide (100 < a.n) = false := by simp; omega
        clear hk3 next
        go_wp2_with fail
        exact ⟨⟨k + 1, by omega, by go_num, e2.out, hB3⟩, by simp [intOf]; omega⟩
    · have e2 := Lib.hid (next fun q => hk3 q.1)
      have t1 : (a.k == 2) = false := by simpa using hk3
      clear hk3 next
      go_wp2_with fail
      exact ⟨⟨k + 1, by omega, by go_num, e2.out, hB3⟩, by simp [intOf]; omega⟩
  · obtain rfl : k = n := by omega
    have e2 : lightB rs = true := by
      unfold lightB
      simp only [Bool.and_eq_true, decide_eq_true_eq, List.all_eq_true]
      refine ⟨by rw [hl.out]; exact hn1, fun a ha => ?_⟩
      obtain ⟨j, hj⟩ := List.getElem?_of_mem ha
      exact hkey.out j a (by have := (List.getElem?_eq_some_iff.1 hj).1; have := hl.out; omega) hj
    replace e2 := Lib.hid e2
    go_wp2_with fail
    go_ret
    exact ⟨ret_bool e2.out.symm, hB⟩
structure TwoP (w : World) (X Y : Nat → Prop) (g d : Nat) (ev pa no sq : Int) (L : List Pr) : Prop where
  t : TabP w X g ev pa no sq L
  r : RefP w Y d ev pa no sq L
  dj : ∀ k, X k → ¬ Y k
structure StpB (w w' : World) (X Y X' Y' : Nat → Prop) : Prop where
  x : ∀ k, X' k → X k ∨ w.heap.size ≤ k
  y : ∀ k, Y' k → Y k ∨ w.heap.size ≤ k
  c : Chg w w' (fun k => X k ∨ Y k)
theorem StpB.refl (w : World) (X Y : Nat → Prop) : StpB w w X Y X Y := ⟨fun _ q => .inl q, fun _ q => .inl q, Chg.refl _ _⟩
theorem StpB.trans {w w' w'' : World} {X Y X' Y' X'' Y'' : Nat → Prop} (h : StpB w w' X Y X' Y') (k : StpB w' w'' X' Y' X'' Y'') : StpB w w'' X Y X'' Y'' :=
  ⟨fun i q => (k.x i q).elim (h.x i) fun q => .inr (Nat.le_trans h.c.size q), fun i q => (k.y i q).elim (h.y i) fun q => .inr (Nat.le_trans h.c.size q),
    h.c.trans k.c fun i hi q => q.elim (fun q => .inl ((h.x i q).resolve_right (by omega))) fun q => .inr ((h.y i q).resolve_right (by omega))⟩
theorem StpB.below {w w' : World} {X Y : Nat → Prop} (h : Below w.heap.size w w') : StpB w w' X Y X Y := ⟨fun _ q => .inl q, fun _ q => .inl q, Chg.of_below h⟩
section
variable {w w1 w2 : World} {X Y Y1 : Nat → Prop} {g d : Nat} {ev pa no sq no' sq' : Int} {L L' : List Pr}
theorem TwoP.nx (h : TwoP w X Y g d ev pa no sq L) (hb : Below w.heap.size w w1) : TwoP w1 X Y g d ev pa no sq L := ⟨h.t.nx hb, h.r.nx hb, h.dj⟩
theorem TwoP.step (h : TwoP w X Y g d ev pa no sq L) (h1 : TabP w1 X g ev pa no' sq' L') (s1 : Chg w w1 X) (h2 : RefP w2 Y1 d ev pa no' sq' L') (s2 : ∀ k, Y1 k → Y k ∨ w1.heap.size ≤ k) (s3 : Chg w1 w2 Y) :
    TwoP w2 X Y1 g d ev pa no' sq' L' ∧ StpB w w2 X Y X Y1 := by
  refine ⟨⟨h1.chg s3 fun k q r => h.dj k q r, h2, fun k q r => (s2 k r).elim (h.dj k q) fun r => by have := h1.lt k q; omega⟩, fun _ q => .inl q, fun k q => (s2 k q).elim .inl fun q => .inr (Nat.le_trans s1.size q), ?_⟩
  exact (s1.mono fun i _ q => .inl q).trans s3 fun _ _ q => .inr q
theorem TwoP.away (h : TwoP w X Y g d ev pa no sq L) (s1 : Chg w w1 X) : RefP w1 Y d ev pa no sq L := h.r.chg s1 fun k r q => h.dj k q r
theorem refAddS24 (h : RefP w Y d ev pa no sq L) (hL : L.length ≤ 100000) (hd : Dist L) (id : Int) (hno : 0 ≤ no ∧ no ≤ 1099511627776) :
    Calls Try.prog 161 #[.pointer (some ⟨d, 0, none⟩), .int .i64 id] w fun e w' => e = .returned (.int .i64 (addC L id no).1) ∧ ∃ Y', RefP w' Y' d ev pa no sq (addC L id no).2 ∧ (∀ k, Y' k → Y k ∨ w.heap.size ≤ k) ∧ Chg w w' Y := by
  by_cases hid : id < 0 ∨ 255 < id
  · have e : addC L id no = (9, L) := if_pos hid
    rw [e]
    refine (refAddBad24 w Y d ev pa no sq L h hL id hid).mono ?_
    rintro e w' ⟨rfl, rfl⟩
    exact ⟨rfl, Y, h, fun _ q => .inl q, Chg.refl _ _⟩
  · exact refAddOk24 w Y d ev pa no sq L h hL hd id (by omega) hno
end
def ActPost (w : World) (X Y : Nat → Prop) (g d : Nat) (ev pa no sq : Int) (e : Ending) (w' : World) : Prop :=
  e = .returned (.bool true) ∧ ∃ Y' no' sq' L', TwoP w' X Y' g d ev pa no' sq' L' ∧ StpB w w' X Y X Y' ∧ (no ≤ no' ∧ no' ≤ no + 100) ∧ (sq ≤ sq' ∧ sq' ≤ sq + 25600)
set_option maxRecDepth 100000 in
set_option maxHeartbeats 4000000 in
theorem actP_0 (w : World) (X Y : Nat → Prop) (g d : Nat) (ev pa no sq : Int) (L : List Pr) (h : TwoP w X Y g d ev pa no sq L) (hno : no ≤ 1000000) (hsq : sq ≤ 100000000) (id n : Int) (hid : IdIn id) (hin : IdIn n) :
    Calls Try.prog 83 #[.pointer (some ⟨g, 0, none⟩), .pointer (some ⟨d, 0, none⟩), .agg #[.int .i64 0, .int .i64 id, .int .i64 n]] w (ActPost w X Y g d ev pa no sq) := by
  have hB := (Below.refl w.heap.size w).alloc (Nat.le_refl _) (.cells #[.int .i64 0, .int .i64 id, .int .i64 n] 116)
  have hq := Blk.new w 116 #[.int .i64 0, .int .i64 id, .int .i64 n]
  have h1 := h.nx hB
  have hG := h.t.good
  have hd := hG.dist
  have hlen := hG.len
  have hn0 := hG.no_
  have hs0 := hG.sq_
  have hXl : ∀ k, X k → k < w.heap.size := h.t.lt
  have hYl : ∀ k, Y k → k < w.heap.size := h.r.lt
  go_enter Try.func83, Try.ntmps83
  go_upto_region 1 with (fail)
  generalize w.alloc (.cells #[.int .i64 0, .int .i64 id, .int .i64 n] 116) = w1 at *
  have a0 : w1.cell? ⟨w.heap.size, 0, none⟩ = some (.int .i64 0) := hq.cellv 0 rfl
  have a1 : w1.cell? ⟨w.heap.size, 1, none⟩ = some (.int .i64 id) := hq.cellv 1 rfl
  have a2 : w1.cell? ⟨w.heap.size, 2, none⟩ = some (.int .i64 n) := hq.cellv 2 rfl
  have ltq := hq.lt
  go_upto_region 3 with (fail)
  have h1 := h1.nx (Below.refl _ _).drew
  -- region 3: 0 1 2 3C 4 5 6 7C 8 9
  try refine wp_region_noPanic ?_
  have hs1r : (fun w' => ∀ i, w'.cell? ⟨w.heap.size, i, none⟩ = w1.cell? ⟨w.heap.size, i, none⟩) w1.drew := fun _ => rfl
  refine wp_region_held_drew (S := fun w' => ∀ i, w'.cell? ⟨w.heap.size, i, none⟩ = w1.cell? ⟨w.heap.size, i, none⟩) (by kernel_rfl) hs1r (fun _ => ?_)
  (refine held_takeA 0 (by rfl) ?_ (by kernel_rfl) (fun _ _ _ h => h) hs1r ?_ ?_; rotate_left; (focus (intro wq hSw; have hrd := hSw; go_simp; try with_reducible rfl; done)); try simp only [Act.put, List.setIfInBounds_toArray, List.set_cons_zero, List.set_cons_succ])
  (refine held_takeA 1 (by rfl) ?_ (by kernel_rfl) (fun _ _ _ h => h) hs1r ?_ ?_; rotate_left; (focus (intro wq hSw; have hrd := hSw; go_simp; try with_reducible rfl; done)); try simp only [Act.put, List.setIfInBounds_toArray, List.set_cons_zero, List.set_cons_succ])
  (refine held_takeA 2 (by rfl) ?_ (by kernel_rfl) (fun _ _ _ h => h) hs1r ?_ ?_; rotate_left; (focus (intro wq hSw; have hrd := hSw; go_simp; try with_reducible rfl; done)); try simp only [Act.put, List.setIfInBounds_toArray, List.set_cons_zero, List.set_cons_succ])
  (refine held_takeA 4 (by rfl) ?_ (by kernel_rfl) (fun _ _ _ h => h) hs1r ?_ ?_; rotate_left; (focus (intro wq hSw; have hrd := hSw; go_simp; try with_reducible rfl; done)); try simp only [Act.put, List.setIfInBounds_toArray, List.set_cons_zero, List.set_cons_succ])
  (refine held_takeA 5 (by rfl) ?_ (by kernel_rfl) (fun _ _ _ h => h) hs1r ?_ ?_; rotate_left; (focus (intro wq hSw; have hrd := hSw; go_simp; try with_reducible rfl; done)); try simp only [Act.put, List.setIfInBounds_toArray, List.set_cons_zero, List.set_cons_succ])
  (refine held_takeA 6 (by rfl) ?_ (by kernel_rfl) (fun _ _ _ h => h) hs1r ?_ ?_; rotate_left; (focus (intro wq hSw; have hrd := hSw; go_simp; try with_reducible rfl; done)); try simp only [Act.put, List.setIfInBounds_toArray, List.set_cons_zero, List.set_cons_succ])
  refine held_callA 3 (by rfl) (by kernel_rfl) (by rfl) (fun KQ hKQ => ?_)
  go_simp
  refine (addX24 h1.t id (by omega)).mono ?_
  rintro e w2 ⟨rfl, h2, s2⟩
  have hr2 := h1.away s2
  have e2 : ∀ i, w2.cell? ⟨w.heap.size, i, none⟩ = w1.cell? ⟨w.heap.size, i, none⟩ := fun i => s2.cell (p := ⟨w.heap.size, i, none⟩) ltq (fun q => absurd (hXl _ q) (Nat.lt_irrefl _))
  have hs2r := e2
  refine hKQ.out _ _ hs2r ?_
  clear hKQ KQ
  try simp only [Act.put, List.setIfInBounds_toArray, List.set_cons_zero, List.set_cons_succ]
  refine held_callA 7 (by rfl) (by kernel_rfl) (by rfl) (fun KQ hKQ => ?_)
  go_simp
  refine (refAddS24 hr2 (by omega) hd id (by omega)).mono ?_
  rintro e w3 ⟨rfl, Y3, h3, s3, s4⟩
  have e3 : ∀ i, w3.cell? ⟨w.heap.size, i, none⟩ = w1.cell? ⟨w.heap.size, i, none⟩ := fun i => (s4.cell (p := ⟨w.heap.size, i, none⟩) (Nat.lt_of_lt_of_le ltq s2.size) (fun q => absurd (hYl _ q) (Nat.lt_irrefl _))).trans (e2 i)
  obtain ⟨hT, hS⟩ := h1.step h2 s2 h3 s3 s4
  have hS := (StpB.below (X := X) (Y := Y) (hB.trans (show Below w.heap.size w1 w1.drew from (Below.refl _ _).drew))).trans hS
  have hs3r := e3
  refine hKQ.out _ _ hs3r ?_
  clear hKQ KQ
  try simp only [Act.put, List.setIfInBounds_toArray, List.set_cons_zero, List.set_cons_succ]
  (refine held_takeA 8 (by rfl) ?_ (by kernel_rfl) (fun _ _ _ h => h) hs3r ?_ ?_; rotate_left; (focus (intro wq hSw; have hrd := hSw; go_simp; try with_reducible rfl; done)); try simp only [Act.put, List.setIfInBounds_toArray, List.set_cons_zero, List.set_cons_succ])
  (refine held_takeA 9 (by rfl) ?_ (by kernel_rfl) (fun _ _ _ h => h) hs3r ?_ ?_; rotate_left; (focus (intro wq hSw; have hrd := hSw; go_simp; try with_reducible rfl; done)); try simp only [Act.put, List.setIfInBounds_toArray, List.set_cons_zero, List.set_cons_succ])
  refine wpAnyH_done (by kernel_rfl) ?_ _
  try refine NoPanic.normal ?_
  go_wp2_with fail
  go_ret
  exact ⟨ret_bool (by simp), Y3, no, sq, _, hT, hS, by omega, by omega⟩
set_option maxRecDepth 100000 in
set_option maxHeartbeats 4000000 in
theorem actP_1 (w : World) (X Y : Nat → Prop) (g d : Nat) (ev pa no sq : Int) (L : List Pr) (h : TwoP w X Y g d ev pa no sq L) (hno : no ≤ 1000000) (hsq : sq ≤ 100000000) (id n : Int) (hid : IdIn id) (hin : IdIn n) :
    Calls Try.prog 83 #[.pointer (some ⟨g, 0, none⟩), .pointer (some ⟨d, 0, none⟩), .agg #[.int .i64 1, .int .i64 id, .int .i64 n]] w (ActPost w X Y g d ev pa no sq) := by
  have hB := (Below.refl w.heap.size w).alloc (Nat.le_refl _) (.cells #[.int .i64 1, .int .i64 id, .int .i64 n] 116)
  have hq := Blk.new w 116 #[.int .i64 1, .int .i64 id, .int .i64 n]
  have h1 := h.nx hB
  have hG := h.t.good
  have hd := hG.dist
  have hlen := hG.len
  have hn0 := hG.no_
  have hs0 := hG.sq_
  have hXl : ∀ k, X k → k < w.heap.size := h.t.lt
  have hYl : ∀ k, Y k → k < w.heap.size := h.r.lt
  go_enter Try.func83, Try.ntmps83
  go_upto_region 1 with (fail)
  generalize w.alloc (.cells #[.int .i64 1, .int .i64 id, .int .i64 n] 116) = w1 at *
  have a0 : w1.cell? ⟨w.heap.size, 0, none⟩ = some (.int .i64 1) := hq.cellv 0 rfl
  have a1 : w1.cell? ⟨w.heap.size, 1, none⟩ = some (.int .i64 id) := hq.cellv 1 rfl
  have a2 : w1.cell? ⟨w.heap.size, 2, none⟩ = some (.int .i64 n) := hq.cellv 2 rfl
  have ltq := hq.lt
  go_upto_region 5 with (fail)
  have h1 := h1.nx (Below.refl _ _).drew
  -- region 5: 0 1 2 3C 4 5 6 7C 8 9
  try refine wp_region_noPanic ?_
  have hs4r : (fun w' => ∀ i, w'.cell? ⟨w.heap.size, i, none⟩ = w1.cell? ⟨w.heap.size, i, none⟩) w1.drew := fun _ => rfl
  refine wp_region_held_drew (S := fun w' => ∀ i, w'.cell? ⟨w.heap.size, i, none⟩ = w1.cell? ⟨w.heap.size, i, none⟩) (by kernel_rfl) hs4r (fun _ => ?_)
  (refine held_takeA 0 (by rfl) ?_ (by kernel_rfl) (fun _ _ _ h => h) hs4r ?_ ?_; rotate_left; (focus (intro wq hSw; have hrd := hSw; go_simp; try with_reducible rfl; done)); try simp only [Act.put, List.setIfInBounds_toArray, List.set_cons_zero, List.set_cons_succ])
  (refine held_takeA 1 (by rfl) ?_ (by kernel_rfl) (fun _ _ _ h => h) hs4r ?_ ?_; rotate_left; (focus (intro wq hSw; have hrd := hSw; go_simp; try with_reducible rfl; done)); try simp only [Act.put, List.setIfInBounds_toArray, List.set_cons_zero, List.set_cons_succ])
  (refine held_takeA 2 (by rfl) ?_ (by kernel_rfl) (fun _ _ _ h => h) hs4r ?_ ?_; rotate_left; (focus (intro wq hSw; have hrd := hSw; go_simp; try with_reducible rfl; done)); try simp only [Act.put, List.setIfInBounds_toArray, List.set_cons_zero, List.set_cons_succ])
  (refine held_takeA 4 (by rfl) ?_ (by kernel_rfl) (fun _ _ _ h => h) hs4r ?_ ?_; rotate_left; (focus (intro wq hSw; have hrd := hSw; go_simp; try with_reducible rfl; done)); try simp only [Act.put, List.setIfInBounds_toArray, List.set_cons_zero, List.set_cons_succ])
  (refine held_takeA 5 (by rfl) ?_ (by kernel_rfl) (fun _ _ _ h => h) hs4r ?_ ?_; rotate_left; (focus (intro wq hSw; have hrd := hSw; go_simp; try with_reducible rfl; done)); try simp only [Act.put, List.setIfInBounds_toArray, List.set_cons_zero, List.set_cons_succ])
  (refine held_takeA 6 (by rfl) ?_ (by kernel_rfl) (fun _ _ _ h => h) hs4r ?_ ?_; rotate_left; (focus (intro wq hSw; have hrd := hSw; go_simp; try with_reducible rfl; done)); try simp only [Act.put, List.setIfInBounds_toArray, List.set_cons_zero, List.set_cons_succ])
  refine held_callA 3 (by rfl) (by kernel_rfl) (by rfl) (fun KQ hKQ => ?_)
  go_simp
  refine (remX24 h1.t id hid).mono ?_
  rintro e w2 ⟨rfl, h2, s2⟩
  have hr2 := h1.away s2
  have e2 : ∀ i, w2.cell? ⟨w.heap.size, i, none⟩ = w1.cell? ⟨w.heap.size, i, none⟩ := fun i => s2.cell (p := ⟨w.heap.size, i, none⟩) ltq (fun q => absurd (hXl _ q) (Nat.lt_irrefl _))
  have hs5r := e2
  refine hKQ.out _ _ hs5r ?_
  clear hKQ KQ
  try simp only [Act.put, List.setIfInBounds_toArray, List.set_cons_zero, List.set_cons_succ]
  refine held_callA 7 (by rfl) (by kernel_rfl) (by rfl) (fun KQ hKQ => ?_)
  go_simp
  refine (refRem24 w2 Y d ev pa no sq L hr2 (by omega) hd id).mono ?_
  rintro e w3 ⟨rfl, Y3, h3, s3, s4⟩
  have e3 : ∀ i, w3.cell? ⟨w.heap.size, i, none⟩ = w1.cell? ⟨w.heap.size, i, none⟩ := fun i => (s4.cell (p := ⟨w.heap.size, i, none⟩) (Nat.lt_of_lt_of_le ltq s2.size) (fun q => absurd (hYl _ q) (Nat.lt_irrefl _))).trans (e2 i)
  obtain ⟨hT, hS⟩ := h1.step h2 s2 h3 s3 s4
  have hS := (StpB.below (X := X) (Y := Y) (hB.trans (show Below w.heap.size w1 w1.drew from (Below.refl _ _).drew))).trans hS
  have hs6r := e3
  refine hKQ.out _ _ hs6r ?_
  clear hKQ KQ
  try simp only [Act.put, List.setIfInBounds_toArray, List.set_cons_zero, List.set_cons_succ]
  (refine held_takeA 8 (by rfl) ?_ (by kernel_rfl) (fun _ _ _ h => h) hs6r ?_ ?_; rotate_left; (focus (intro wq hSw; have hrd := hSw; go_simp; try with_reducible rfl; done)); try simp only [Act.put, List.setIfInBounds_toArray, List.set_cons_zero, List.set_cons_succ])
  (refine held_takeA 9 (by rfl) ?_ (by kernel_rfl) (fun _ _ _ h => h) hs6r ?_ ?_; rotate_left; (focus (intro wq hSw; have hrd := hSw; go_simp; try with_reducible rfl; done)); try simp only [Act.put, List.setIfInBounds_toArray, List.set_cons_zero, List.set_cons_succ])
  refine wpAnyH_done (by kernel_rfl) ?_ _
  try refine NoPanic.normal ?_
  go_wp2_with fail
  go_ret
  exact ⟨ret_bool (by simp), Y3, no, sq, _, hT, hS, by omega, by omega⟩
set_option maxRecDepth 100000 in
set_option maxHeartbeats 4000000 in
theorem actP_4 (w : World) (X Y : Nat → Prop) (g d : Nat) (ev pa no sq : Int) (L : List Pr) (h : TwoP w X Y g d ev pa no sq L) (hno : no ≤ 1000000) (hsq : sq ≤ 100000000) (id n : Int) (hid : IdIn id) (hin : IdIn n) :
    Calls Try.prog 83 #[.pointer (some ⟨g, 0, none⟩), .pointer (some ⟨d, 0, none⟩), .agg #[.int .i64 4, .int .i64 id, .int .i64 n]] w (ActPost w X Y g d ev pa no sq) := by
  have hB := (Below.refl w.heap.size w).alloc (Nat.le_refl _) (.cells #[.int .i64 4, .int .i64 id, .int .i64 n] 116)
  have hq := Blk.new w 116 #[.int .i64 4, .int .i64 id, .int .i64 n]
  have h1 := h.nx hB
  have hG := h.t.good
  have hd := hG.dist
  have hlen := hG.len
  have hn0 := hG.no_
  have hs0 := hG.sq_
  have hXl : ∀ k, X k → k < w.heap.size := h.t.lt
  have hYl : ∀ k, Y k → k < w.heap.size := h.r.lt
  go_enter Try.func83, Try.ntmps83
  go_upto_region 1 with (fail)
  generalize w.alloc (.cells #[.int .i64 4, .int .i64 id, .int .i64 n] 116) = w1 at *
  have a0 : w1.cell? ⟨w.heap.size, 0, none⟩ = some (.int .i64 4) := hq.cellv 0 rfl
  have a1 : w1.cell? ⟨w.heap.size, 1, none⟩ = some (.int .i64 id) := hq.cellv 1 rfl
  have a2 : w1.cell? ⟨w.heap.size, 2, none⟩ = some (.int .i64 n) := hq.cellv 2 rfl
  have ltq := hq.lt
  go_upto_region 20 with (fail)
  have h1 := h1.nx (Below.refl _ _).drew
  -- region 20: 0 1 2 3 4 5 6C 7 8 9 10 11 12 13C 14 15
  try refine wp_region_noPanic ?_
  have hs7r : (fun w' => ∀ i, w'.cell? ⟨w.heap.size, i, none⟩ = w1.cell? ⟨w.heap.size, i, none⟩) w1.drew := fun _ => rfl
  refine wp_region_held_drew (S := fun w' => ∀ i, w'.cell? ⟨w.heap.size, i, none⟩ = w1.cell? ⟨w.heap.size, i, none⟩) (by kernel_rfl) hs7r (fun _ => ?_)
  (refine held_takeA 0 (by rfl) ?_ (by kernel_rfl) (fun _ _ _ h => h) hs7r ?_ ?_; rotate_left; (focus (intro wq hSw; have hrd := hSw; go_simp; try with_reducible rfl; done)); try simp only [Act.put, List.setIfInBounds_toArray, List.set_cons_zero, List.set_cons_succ])
  (refine held_takeA 1 (by rfl) ?_ (by kernel_rfl) (fun _ _ _ h => h) hs7r ?_ ?_; rotate_left; (focus (intro wq hSw; have hrd := hSw; go_simp; try with_reducible rfl; done)); try simp only [Act.put, List.setIfInBounds_toArray, List.set_cons_zero, List.set_cons_succ])
  (refine held_takeA 2 (by rfl) ?_ (by kernel_rfl) (fun _ _ _ h => h) hs7r ?_ ?_; rotate_left; (focus (intro wq hSw; have hrd := hSw; go_simp; try with_reducible rfl; done)); try simp only [Act.put, List.setIfInBounds_toArray, List.set_cons_zero, List.set_cons_succ])
  (refine held_takeA 3 (by rfl) ?_ (by kernel_rfl) (fun _ _ _ h => h) hs7r ?_ ?_; rotate_left; (focus (intro wq hSw; have hrd := hSw; go_simp; try with_reducible rfl; done)); try simp only [Act.put, List.setIfInBounds_toArray, List.set_cons_zero, List.set_cons_succ])
  (refine held_takeA 4 (by rfl) ?_ (by kernel_rfl) (fun _ _ _ h => h) hs7r ?_ ?_; rotate_left; (focus (intro wq hSw; have hrd := hSw; go_simp; try with_reducible rfl; done)); try simp only [Act.put, List.setIfInBounds_toArray, List.set_cons_zero, List.set_cons_succ])
  (refine held_takeA 5 (by rfl) ?_ (by kernel_rfl) (fun _ _ _ h => h) hs7r ?_ ?_; rotate_left; (focus (intro wq hSw; have hrd := hSw; go_simp; try with_reducible rfl; done)); try simp only [Act.put, List.setIfInBounds_toArray, List.set_cons_zero, List.set_cons_succ])
  (refine held_takeA 7 (by rfl) ?_ (by kernel_rfl) (fun _ _ _ h => h) hs7r ?_ ?_; rotate_left; (focus (intro wq hSw; have hrd := hSw; go_simp; try with_reducible rfl; done)); try simp only [Act.put, List.setIfInBounds_toArray, List.set_cons_zero, List.set_cons_succ])
  (refine held_takeA 8 (by rfl) ?_ (by kernel_rfl) (fun _ _ _ h => h) hs7r ?_ ?_; rotate_left; (focus (intro wq hSw; have hrd := hSw; go_simp; try with_reducible rfl; done)); try simp only [Act.put, List.setIfInBounds_toArray, List.set_cons_zero, List.set_cons_succ])
  (refine held_takeA 9 (by rfl) ?_ (by kernel_rfl) (fun _ _ _ h => h) hs7r ?_ ?_; rotate_left; (focus (intro wq hSw; have hrd := hSw; go_simp; try with_reducible rfl; done)); try simp only [Act.put, List.setIfInBounds_toArray, List.set_cons_zero, List.set_cons_succ])
  (refine held_takeA 10 (by rfl) ?_ (by kernel_rfl) (fun _ _ _ h => h) hs7r ?_ ?_; rotate_left; (focus (intro wq hSw; have hrd := hSw; go_simp; try with_reducible rfl; done)); try simp only [Act.put, List.setIfInBounds_toArray, List.set_cons_zero, List.set_cons_succ])
  (refine held_takeA 11 (by rfl) ?_ (by kernel_rfl) (fun _ _ _ h => h) hs7r ?_ ?_; rotate_left; (focus (intro wq hSw; have hrd := hSw; go_simp; try with_reducible rfl; done)); try simp only [Act.put, List.setIfInBounds_toArray, List.set_cons_zero, List.set_cons_succ])
  (refine held_takeA 12 (by rfl) ?_ (by kernel_rfl) (fun _ _ _ h => h) hs7r ?_ ?_; rotate_left; (focus (intro wq hSw; have hrd := hSw; go_simp; try with_reducible rfl; done)); try simp only [Act.put, List.setIfInBounds_toArray, List.set_cons_zero, List.set_cons_succ])
  refine held_callA 6 (by rfl) (by kernel_rfl) (by rfl) (fun KQ hKQ => ?_)
  go_simp
  refine (resX24 h1.t id n hid).mono ?_
  rintro e w2 ⟨rfl, h2, s2⟩
  have hr2 := h1.away s2
  have e2 : ∀ i, w2.cell? ⟨w.heap.size, i, none⟩ = w1.cell? ⟨w.heap.size, i, none⟩ := fun i => s2.cell (p := ⟨w.heap.size, i, none⟩) ltq (fun q => absurd (hXl _ q) (Nat.lt_irrefl _))
  have hs8r := e2
  refine hKQ.out _ _ hs8r ?_
  clear hKQ KQ
  try simp only [Act.put, List.setIfInBounds_toArray, List.set_cons_zero, List.set_cons_succ]
  refine held_callA 13 (by rfl) (by kernel_rfl) (by rfl) (fun KQ hKQ => ?_)
  go_simp
  refine (refRes24 w2 Y d ev pa no sq L hr2 (by omega) hd id n).mono ?_
  rintro e w3 ⟨rfl, Y3, h3, s3, s4⟩
  have e3 : ∀ i, w3.cell? ⟨w.heap.size, i, none⟩ = w1.cell? ⟨w.heap.size, i, none⟩ := fun i => (s4.cell (p := ⟨w.heap.size, i, none⟩) (Nat.lt_of_lt_of_le ltq s2.size) (fun q => absurd (hYl _ q) (Nat.lt_irrefl _))).trans (e2 i)
  obtain ⟨hT, hS⟩ := h1.step h2 s2 h3 s3 s4
  have hS := (StpB.below (X := X) (Y := Y) (hB.trans (show Below w.heap.size w1 w1.drew from (Below.refl _ _).drew))).trans hS
  have hs9r := e3
  refine hKQ.out _ _ hs9r ?_
  clear hKQ KQ
  try simp only [Act.put, List.setIfInBounds_toArray, List.set_cons_zero, List.set_cons_succ]
  (refine held_takeA 14 (by rfl) ?_ (by kernel_rfl) (fun _ _ _ h => h) hs9r ?_ ?_; rotate_left; (focus (intro wq hSw; have hrd := hSw; go_simp; try with_reducible rfl; done)); try simp only [Act.put, List.setIfInBounds_toArray, List.set_cons_zero, List.set_cons_succ])
  (refine held_takeA 15 (by rfl) ?_ (by kernel_rfl) (fun _ _ _ h => h) hs9r ?_ ?_; rotate_left; (focus (intro wq hSw; have hrd := hSw; go_simp; try with_reducible rfl; done)); try simp only [Act.put, List.setIfInBounds_toArray, List.set_cons_zero, List.set_cons_succ])
  refine wpAnyH_done (by kernel_rfl) ?_ _
  try refine NoPanic.normal ?_
  go_wp2_with fail
  go_ret
  exact ⟨ret_bool (by simp), Y3, no, sq, _, hT, hS, by omega, by omega⟩
set_option maxRecDepth 100000 in
set_option maxHeartbeats 4000000 in
theorem actP_k (w : World) (X Y : Nat → Prop) (g d : Nat) (ev pa no sq : Int) (L : List Pr) (h : TwoP w X Y g d ev pa no sq L) (hno : no ≤ 1000000) (hsq : sq ≤ 100000000) (k : Int) (id n : Int) (hid : IdIn id) (hin : IdIn n) (k0 : k ≠ 0) (k1 : k ≠ 1) (k2 : k ≠ 2) (k3 : k ≠ 3) (k4 : k ≠ 4) :
    Calls Try.prog 83 #[.pointer (some ⟨g, 0, none⟩), .pointer (some ⟨d, 0, none⟩), .agg #[.int .i64 k, .int .i64 id, .int .i64 n]] w (ActPost w X Y g d ev pa no sq) := by
  have hB := (Below.refl w.heap.size w).alloc (Nat.le_refl _) (.cells #[.int .i64 k, .int .i64 id, .int .i64 n] 116)
  have hq := Blk.new w 116 #[.int .i64 k, .int .i64 id, .int .i64 n]
  have h1 := h.nx hB
  have hG := h.t.good
  have hd := hG.dist
  have hlen := hG.len
  have hn0 := hG.no_
  have hs0 := hG.sq_
  have hXl : ∀ k, X k → k < w.heap.size := h.t.lt
  have hYl : ∀ k, Y k → k < w.heap.size := h.r.lt
  go_enter Try.func83, Try.ntmps83
  go_upto_region 1 with (fail)
  generalize w.alloc (.cells #[.int .i64 k, .int .i64 id, .int .i64 n] 116) = w1 at *
  have a0 : w1.cell? ⟨w.heap.size, 0, none⟩ = some (.int .i64 k) := hq.cellv 0 rfl
  have a1 : w1.cell? ⟨w.heap.size, 1, none⟩ = some (.int .i64 id) := hq.cellv 1 rfl
  have a2 : w1.cell? ⟨w.heap.size, 2, none⟩ = some (.int .i64 n) := hq.cellv 2 rfl
  have ltq := hq.lt
  have d0 : (k == 0) = false := by simpa using k0
  have d1 : (k == 1) = false := by simpa using k1
  have d2 : (k == 2) = false := by simpa using k2
  have d3 : (k == 3) = false := by simpa using k3
  have d4 : (k == 4) = false := by simpa using k4
  go_wp2_with fail
  go_ret
  exact ⟨rfl, Y, no, sq, L, h1, StpB.below hB, by omega, by omega⟩
set_option maxRecDepth 100000 in
set_option maxHeartbeats 4000000 in
theorem actP_2 (w : World) (X Y : Nat → Prop) (g d : Nat) (ev pa no sq : Int) (L : List Pr) (h : TwoP w X Y g d ev pa no sq L) (hno : no ≤ 1000000) (hsq : sq ≤ 100000000) (id n : Int) (hid : IdIn id) (hin : IdIn n) :
    Calls Try.prog 83 #[.pointer (some ⟨g, 0, none⟩), .pointer (some ⟨d, 0, none⟩), .agg #[.int .i64 2, .int .i64 id, .int .i64 n]] w (ActPost w X Y g d ev pa no sq) := by
  have hB := (Below.refl w.heap.size w).alloc (Nat.le_refl _) (.cells #[.int .i64 2, .int .i64 id, .int .i64 n] 116)
  have hq := Blk.new w 116 #[.int .i64 2, .int .i64 id, .int .i64 n]
  have h1 := h.nx hB
  have hG := h.t.good
  have hd := hG.dist
  have hlen := hG.len
  have hn0 := hG.no_
  have hs0 := hG.sq_
  have hXl : ∀ k, X k → k < w.heap.size := h.t.lt
  have hYl : ∀ k, Y k → k < w.heap.size := h.r.lt
  go_enter Try.func83, Try.ntmps83
  go_upto_region 1 with (fail)
  generalize w.alloc (.cells #[.int .i64 2, .int .i64 id, .int .i64 n] 116) = w1 at *
  have a0 : w1.cell? ⟨w.heap.size, 0, none⟩ = some (.int .i64 2) := hq.cellv 0 rfl
  have a1 : w1.cell? ⟨w.heap.size, 1, none⟩ = some (.int .i64 id) := hq.cellv 1 rfl
  have a2 : w1.cell? ⟨w.heap.size, 2, none⟩ = some (.int .i64 n) := hq.cellv 2 rfl
  have ltq := hq.lt
  go_wp2_with fail
  go_loopw [7, 8, 9, 10, 11] (fun iv _ _ _ _ wr => ∃ (i : Nat) (Y' : Nat → Prop) (sq' : Int) (L' : List Pr), i ≤ 100 ∧ iv = .int .i64 (i : Int) ∧ TwoP wr X Y' g d ev pa (no + i) sq' L' ∧ StpB w1 wr X Y X Y' ∧ (sq ≤ sq' ∧ sq' ≤ sq + 256 * i) ∧ wr.cell? ⟨w.heap.size, 2, none⟩ = some (.int .i64 n) ∧ w.heap.size < wr.heap.size) (fun i _ _ _ _ _ => 100 - (intOf i).toNat)
  case atStart => exact ⟨0, Y, sq, L, by omega, rfl, by simpa using h1, StpB.refl _ _ _, by omega, a2, ltq⟩
  case round =>
  have ltq1 := ltq
  clear h1 hq a0 a1 a2 ltq hG hd hlen
  obtain ⟨i, Y', sq', L', hi, rfl, h2, hS, hsq', a2, ltq⟩ := hrel
  have hz := hS.c.size
  have hG := h2.t.good
  have hd := hG.dist
  have hlen := hG.len
  have done : ActPost w X Y g d ev pa no sq (.returned (.bool true)) wr := ⟨rfl, Y', no + i, sq', L', h2, (StpB.below hB).trans hS, by omega, by omega⟩
  by_cases ht1 : (i : Int) < n
  rotate_left
  · have d1 : decide ((i : Int) < n) = false := by simpa using ht1
    replace done := Lib.hid done
    go_wp2_with fail
    go_ret
    exact done.out
  by_cases ht2 : i < 100
  rotate_left
  · have d1 : decide ((i : Int) < n) = true := by simpa using ht1
    have d2 : decide ((i : Int) < 100) = false := by simp; omega
    replace done := Lib.hid done
    go_wp2_with fail
    go_ret
    exact done.out
  clear done
  have d1 : decide ((i : Int) < n) = true := by simpa using ht1
  have d2 : decide ((i : Int) < 100) = true := by simp; omega
  have hlo : (lostOf (no + i + 1) pa L').length ≤ 256 := by unfold lostOf; rw [List.length_map]; exact Nat.le_trans (List.length_filter_le _ _) hlen
  have hao : (askAll (no + i + 1) ev sq' (tick1 (no + i) pa L')).2.2.length ≤ 256 := Nat.le_trans (ask_out _ _ _ _) (by unfold tick1; rw [List.length_map]; exact hlen)
  have hqo := ask_sq (no + i + 1) ev (tick1 (no + i) pa L') sq'
  have hql : (tick1 (no + i) pa L').length ≤ 256 := by unfold tick1; rw [List.length_map]; exact hlen
  obtain ⟨Z1, hZ1⟩ : ∃ Z, Z = lostOf (no + i + 1) pa L' := ⟨_, rfl⟩
  obtain ⟨T, hT⟩ : ∃ T, T = askAll (no + i + 1) ev sq' (tick1 (no + i) pa L') := ⟨_, rfl⟩
  rw [← hZ1] at hlo
  rw [← hT] at hao hqo
  replace hZ1 := Lib.hid hZ1
  replace hT := Lib.hid hT
  have hrw := hG.rows
  have hev2 := hG.ev_
  have hXl2 := h2.t.lt
  have hYl2 := h2.r.lt
  have hXn : ¬ X w.heap.size := fun q => absurd (hXl _ q) (Nat.lt_irrefl _)
  have hYn : ¬ Y' w.heap.size := fun q => (hS.y _ q).elim (fun q => absurd (hYl _ q) (Nat.lt_irrefl _)) fun q => by omega
  have tokp := True.intro
  have toks := True.intro
  go_wp2_with (first
    | (go_at_call 71; refine (tickX24 h2.t (by omega) (by omega)).mono ?_; rw [← hZ1.out, ← hT.out]; rintro e w2 ⟨v1, v2, rfl, hr1, hr2, ht2', hC2⟩; obtain ⟨A1, c1, rfl, -, -, hs1⟩ := hr1.seen (Nat.le_refl _); obtain ⟨A2, c2, rfl, -, -, hs2⟩ := hr2.seen (Nat.le_refl _); have hrf := h2.away hC2; have hz2 := hC2.size)
    | (go_at_call 163; refine (refTick24 w2 Y' d ev pa (no + i) sq' L' hrf (by omega) (by omega) (by omega) (by omega) (by omega) hrw).mono ?_; rw [← hZ1.out, ← hT.out]; rintro e w3 ⟨v3, v4, rfl, hr3, hr4, Y3, h3, hy3, hnw, hC3⟩; obtain ⟨A3, c3, rfl, -, -, hs3⟩ := hr3.seen (Nat.le_refl _); obtain ⟨A4, c4, rfl, -, -, hs4⟩ := hr4.seen (Nat.le_refl _); have hs1' := hC3.seen hs1 (fun b q => ⟨q.2, fun r => by have := hYl2 b r; omega⟩); have hs2' := hC3.seen hs2 (fun b q => ⟨q.2, fun r => by have := hYl2 b r; omega⟩); obtain ⟨hT3, hS3⟩ := h2.step ht2' hC2 h3 hy3 hC3; have hz3 := hC3.size; have b3 : w3.cell? ⟨w.heap.size, 2, none⟩ = some (.int .i64 n) := (hC3.cell (p := ⟨w.heap.size, 2, none⟩) (Nat.lt_of_lt_of_le ltq hz2) hYn).trans ((hC2.cell (p := ⟨w.heap.size, 2, none⟩) ltq hXn).trans a2); clear hs1 hs2 hr1 hr2 hr3 hr4 a2)
    | (go_at_call 160; have tokp2 := tokp; clear tokp; refine (plain24_any w3 _ A2 T.2.2.length c2 T.2.2 hs2' (fun b q => Nat.lt_of_lt_of_le q.2 hz3) (by omega)).mono ?_; rintro e w4 ⟨v5, rfl, hr5, hb4⟩; obtain ⟨A5, c5, rfl, -, -, hs5⟩ := hr5.seen (Nat.le_refl _); have hz4 := hb4.size; have hs4' := hs4.below (B := w3.heap.size) hb4 (fun b q => q.2))
    | (go_at_call 159; have toks2 := toks; clear toks; refine (same24_any w4 _ _ A5 T.2.2.length c5 T.2.2 A4 T.2.2.length c4 T.2.2 hs5 hs4' (fun b q => q.2) (fun b q => Nat.lt_of_lt_of_le q.2 hz4) (by omega)).mono ?_; rw [decide_eq_true rfl]; rintro e w5 ⟨rfl, hb5⟩; have hz5 := hb5.size; have hb35 := hb4.trans (hb5.mono hz4); have hs1'' := hs1'.below (B := w3.heap.size) hb35 (fun b q => Nat.lt_of_lt_of_le q.2 hz3))
    | (go_at_call 160; clear tokp2; refine (plain24_any w5 _ A1 Z1.length c1 Z1 hs1'' (fun b q => by omega) (by omega)).mono ?_; rintro e w6 ⟨v6, rfl, hr6, hb6⟩; obtain ⟨A6, c6, rfl, -, -, hs6⟩ := hr6.seen (Nat.le_refl _); have hz6 := hb6.size; have hb36 := hb35.trans (hb6.mono (Nat.le_trans hz4 hz5)); have hs3' := hs3.below (B := w3.heap.size) hb36 (fun b q => q.2))
    | (go_at_call 159; clear toks2; refine (same24_any w6 _ _ A6 Z1.length c6 Z1 A3 Z1.length c3 Z1 hs6 hs3' (fun b q => q.2) (fun b q => by omega) (by omega)).mono ?_; rw [decide_eq_true rfl]; rintro e w7 ⟨rfl, hb7⟩))
  have hb37 := hb36.trans (hb7.mono (by omega))
  have hz7 := hb7.size
  have hzz : w3.heap.size ≤ w7.heap.size := hb37.size
  exact ⟨⟨i + 1, Y3, T.2.1, T.1, by omega, by go_num, by rw [show no + ((i + 1 : Nat) : Int) = no + i + 1 by omega]; exact hT3.nx hb37, hS.trans (hS3.trans (StpB.below hb37)), by omega, (hb37.cell (p := ⟨w.heap.size, 2, none⟩) (show w.heap.size < w3.heap.size by omega)).trans b3, by omega⟩, by simp [intOf]; omega⟩
end Go.Proofs.Ytejgekoinbdhjaa
