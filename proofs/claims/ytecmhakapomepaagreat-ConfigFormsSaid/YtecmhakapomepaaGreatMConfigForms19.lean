import Derived.Test.YtecmhakapomepaaGreatMConfigForms18
import Derived.Test.YtecmhakapomepaaGreatMConfigForms2
/- config: the document's sibling.Add (out of pool's texts by mksib.py). -/
namespace Go.Proofs.YtecmhakapomepaaGreat.sb
set_option linter.unusedVariables false
open Go Go.RowKit Go.Maps

def wtB (n : Int) : Bool := decide (0 ≤ n) && decide (n ≤ 1000000)
def addOk (id ad wt : Int) : Bool := (decide (0 ≤ id) && decide (id ≤ 255)) && (ad != 0) && wtB wt
/-- members as elements of rows. -/
def memK : RK SiteV where
  size := 5
  cel m := [.int .i64 m.id, .int .u32 m.ad, .int .i64 m.cost, .int .i64 0, .int .i64 0]
  ok _ _ _ := True
  pos := by omega
  len _ := rfl
  one _ u hu := by simp at hu; rcases hu with rfl | rfl | rfl | rfl | rfl <;> rfl
  keep _ _ := trivial
  more _ _ := trivial
theorem memRow_ok : ElemOk Tryz.prog 168 225 memK.size 40 (.agg #[.int .i64 0, .int .u32 0, .int .i64 0, .int .i64 0, .int .i64 0]) := ⟨Tryz.underlying168, by kernel_rfl, rfl, memK.pos⟩
theorem mem_cells {w : World} {S : Nat → Prop} {A : Option Addr} {n : Nat} {L : List SiteV} {k : Nat} (h : Seen memK w S A n L) (hk : k < n) :
    ∃ b off m, A = some ⟨b, off, none⟩ ∧ S b ∧ L[k]? = some m ∧ w.cell? ⟨b, off + k * 5, none⟩ = some (.int .i64 m.id) ∧ w.cell? ⟨b, off + k * 5 + 1, none⟩ = some (.int .u32 m.ad) ∧ w.cell? ⟨b, off + k * 5 + 2, none⟩ = some (.int .i64 m.cost) ∧
      w.cell? ⟨b, off + k * 5 + 3, none⟩ = some (.int .i64 0) ∧ w.cell? ⟨b, off + k * 5 + 4, none⟩ = some (.int .i64 0) := by
  have hlt : k < L.length := by rw [h.1]; exact hk
  have hr := List.getElem?_eq_getElem hlt
  obtain ⟨b, off, e, hb, hc⟩ := h.cell hr
  exact ⟨b, off, _, e, hb, hr, hc 0 (by decide), hc 1 (by decide), hc 2 (by decide), hc 3 (by decide), hc 4 (by decide)⟩
/-- block g is the document's pool of these rows, that lie in blocks of which X is so. -/
def RefIn (w : World) (X : Nat → Prop) (g : Nat) (L : List SiteV) : Prop :=
  ∃ A n c, n ≤ c ∧ c ≤ maxLen ∧ Blk w g 170 #[.slice A n c] ∧ Seen memK w (fun b => X b ∧ b < w.heap.size) A n L
section
variable {w w' : World} {X : Nat → Prop} {g : Nat} {L : List SiteV}
theorem RefIn.lt (h : RefIn w X g L) : g < w.heap.size := by obtain ⟨A, n, c, _, _, h1, _⟩ := h; exact h1.lt
theorem RefIn.nx (h : RefIn w X g L) (hb : Below w.heap.size w w') : RefIn w' X g L := by
  obtain ⟨A, n, c, k1, k2, h1, h2⟩ := h
  exact ⟨A, n, c, k1, k2, h1.below hb h1.lt, (h2.below hb fun b q => q.2).more fun b q => ⟨q.1, Nat.lt_of_lt_of_le q.2 hb.size⟩⟩
theorem RefIn.grown {k : Nat} (h : RefIn w X g L) (hg : w.grownBy w' (some k)) (h1 : g ≠ k) (h2 : ∀ b, X b → b ≠ k) : RefIn w' X g L := by
  obtain ⟨A, n, c, k1, k2, q1, q2⟩ := h
  exact ⟨A, n, c, k1, k2, q1.grown hg (fun e => h1 (by injection e)), (q2.grown hg fun b q => ⟨q.2, fun e => h2 b q.1 (by injection e with e; exact e.symm)⟩).more fun b q => ⟨q.1, Nat.lt_of_lt_of_le q.2 hg.size⟩⟩
end
/-- the place of an id from k on. -/
def findF : List SiteV → Int → Option Nat
  | [], _ => none
  | m :: L, id => if m.id = id then some 0 else (findF L id).map (· + 1)
theorem findF_some {L : List SiteV} {id : Int} {k : Nat} {m : SiteV} (hk : L[k]? = some m) (he : m.id = id) (hn : ∀ j m', j < k → L[j]? = some m' → m'.id ≠ id) : findF L id = some k := by
  induction L generalizing k with
  | nil => simp at hk
  | cons a L ih =>
    cases k with
    | zero =>
      simp at hk; subst hk
      unfold findF; rw [if_pos he]
    | succ k =>
      have h0 := hn 0 a (by omega) rfl
      unfold findF
      rw [if_neg h0, ih (by simpa using hk) fun j m' hj hm => hn (j + 1) m' (by omega) (by simpa using hm)]
      rfl
theorem findF_none {L : List SiteV} {id : Int} (hn : ∀ m ∈ L, m.id ≠ id) : findF L id = none := by
  induction L with
  | nil => rfl
  | cons a L ih =>
    unfold findF
    rw [if_neg (hn a List.mem_cons_self), ih fun m hm => hn m (List.mem_cons_of_mem _ hm)]
    rfl
def findZ (L : List SiteV) (id : Int) : Int := match findF L id with
  | some k => (k : Int)
  | none => -1
set_option maxRecDepth 100000 in
set_option maxHeartbeats 2000000 in
theorem refFind25 (w : World) (X : Nat → Prop) (g : Nat) (L : List SiteV) (id : Int) (h : RefIn w X g L) (hn : L.length ≤ 100000) :
    Calls Tryz.prog 124 #[.pointer (some ⟨g, 0, none⟩), .int .i64 id] w fun e w' => e = .returned (.int .i64 (findZ L id)) ∧ Below w.heap.size w w' := by
  obtain ⟨A, n, c, hnc, hcm, hq, hS⟩ := h
  have hl := Lib.hid hS.1
  replace hn : n ≤ 100000 := by have := hS.1; omega
  have c1 : w.cell? ⟨g, 0, none⟩ = some (.slice A n c) := hq.cellv 0 rfl
  have ltg := hq.lt
  go_enter Tryz.func124, Tryz.ntmps124
  go_wp2_with fail
  go_loopw [5, 6, 12] (fun _ _ i wr => ∃ k : Nat, k ≤ n ∧ i = .int .i64 (k : Int) ∧ (∀ j m', j < k → L[j]? = some m' → m'.id ≠ id) ∧ Below w.heap.size w wr) (fun _ _ i _ => n - (intOf i).toNat)
  case atStart => exact ⟨0, Nat.zero_le _, rfl, fun j m' hj => absurd hj (by omega), Below.refl _ _⟩
  case round =>
  obtain ⟨k, hk, rfl, hno, hB⟩ := hrel
  have hz := hB.size
  replace hno := Lib.hid hno
  by_cases hlt : k < n
  · obtain ⟨b, off, m, rfl, hb, hr, q0, q1, q2, q3, q4⟩ := mem_cells (hS.below hB fun _ q => q.2) hlt
    have hb2 : b < wr.heap.size := Nat.lt_of_lt_of_le hb.2 hz
    have hki : (k : Int) < n := by omega
    have hB2 := hB.alloc hz (.cells #[.int .i64 m.id, .int .u32 m.ad, .int .i64 m.cost, .int .i64 0, .int .i64 0] 225)
    have hq := Blk.new wr 225 #[.int .i64 m.id, .int .u32 m.ad, .int .i64 m.cost, .int .i64 0, .int .i64 0]
    go_upto_region 4 with (fail)
    generalize wr.alloc (.cells #[.int .i64 m.id, .int .u32 m.ad, .int .i64 m.cost, .int .i64 0, .int .i64 0] 225) = w2 at *
    have r0 : w2.cell? ⟨wr.heap.size, 0, none⟩ = some (.int .i64 m.id) := hq.cellv 0 rfl
    by_cases he : m.id = id
    · have hf := findF_some hr he hno.out
      have hz2 : findZ L id = (k : Int) := by unfold findZ; rw [hf]
      have d1 : (m.id == id) = true := by simpa using he
      replace he := Lib.hid he
      replace hz2 := Lib.hid hz2
      go_wp2_with fail
      go_ret
      exact ⟨by rw [hz2.out]; rfl, hB2⟩
    · have d1 : (m.id == id) = false := by simpa using he
      have hno2 : ∀ j m', j < k + 1 → L[j]? = some m' → m'.id ≠ id := by
        intro j m' hj hm
        by_cases hjk : j < k
        · exact hno.out j m' hjk hm
        · obtain rfl : j = k := by omega
          rw [hr] at hm; injection hm with hm; subst hm
          exact he
      replace he := Lib.hid he
      replace hno2 := Lib.hid hno2
      go_wp2_with fail
      exact ⟨⟨k + 1, by omega, by go_num, hno2.out, hB2⟩, by simp [intOf]; omega⟩
  · obtain rfl : k = n := by omega
    have hf : findZ L id = -1 := by
      unfold findZ
      rw [findF_none fun m hm => by
        obtain ⟨j, hj, e⟩ := List.getElem_of_mem hm
        exact hno.out j m (by have := hl.out; omega) (by rw [List.getElem?_eq_getElem hj, e])]
    replace hf := Lib.hid hf
    go_wp2_with fail
    go_ret
    exact ⟨by rw [hf.out]; rfl, hB⟩
theorem rows_lit5 (w : World) : Rows memK (w.alloc (.cells #[] 225)) w.heap.size w.heap.size 225 (.slice (some ⟨w.heap.size, 0, none⟩) 0 0) [] :=
  ⟨by have := Own1.lit (base := w.heap.size) (et := 225) (size := 5) w #[] 0 (Nat.le_refl _) (Nat.zero_le _) rfl; exact this, by simp⟩
theorem elem_row : Tryz.prog.underlying 168 = some (.slice (Tryz.prog.elem 168)) := by kernel_rfl
theorem size_row (w : World) : (sizeOf (Tryz.prog.elem 168)).run Tryz.prog w = .ok memK.size w := by kernel_rfl
/-- a member in its place. -/
def insM (L : List SiteV) (m : SiteV) : List SiteV := L.takeWhile (fun x => decide (x.id < m.id)) ++ m :: L.dropWhile (fun x => decide (x.id < m.id))
theorem ins_at {L : List SiteV} {m : SiteV} {k : Nat} (hk : k ≤ L.length) (h1 : ∀ j x, j < k → L[j]? = some x → x.id < m.id) (h2 : ∀ x, L[k]? = some x → ¬ x.id < m.id) : L.take k ++ m :: L.drop k = insM L m := by
  unfold insM
  induction L generalizing k with
  | nil => simp
  | cons a L ih =>
    cases k with
    | zero =>
      have := h2 a rfl
      simp [List.takeWhile, List.dropWhile, this]
    | succ k =>
      have h0 := h1 0 a (by omega) rfl
      rw [List.takeWhile_cons_of_pos (by simpa using h0), List.dropWhile_cons_of_pos (by simpa using h0), List.take_succ_cons, List.drop_succ_cons, List.cons_append, List.cons_append,
        ih (by simpa using hk) (fun j x hj hx => h1 (j + 1) x (by omega) (by simpa using hx)) fun x hx => h2 x (by simpa using hx)]
def addR (L : List SiteV) (id ad wt : Int) : Int × List SiteV :=
  if addOk id ad wt = false then (2, L) else match findF L id with
    | some _ => (13, L)
    | none => if 8 ≤ L.length then (6, L) else (0, insM L ⟨id, ad, wt⟩)
set_option maxRecDepth 100000 in
set_option maxHeartbeats 2000000 in
theorem refAddBad (w : World) (X : Nat → Prop) (g : Nat) (L : List SiteV) (id ad wt : Int) (h : RefIn w X g L) (hno : addOk id ad wt = false) :
    Calls Tryz.prog 110 #[.pointer (some ⟨g, 0, none⟩), .agg #[.int .i64 id, .int .u32 ad, .int .i64 wt]] w fun e w' => e = .returned (.int .i64 (addR L id ad wt).1) ∧ RefIn w' X g (addR L id ad wt).2 ∧ w.grownBy w' (some g) := by
  have e : addR L id ad wt = (2, L) := by unfold addR; rw [if_pos hno]
  rw [e]
  clear e
  have hB := (Below.refl w.heap.size w).alloc (Nat.le_refl _) (.cells #[.int .i64 id, .int .u32 ad, .int .i64 wt] 82)
  have hp := Blk.new w 82 #[.int .i64 id, .int .u32 ad, .int .i64 wt]
  have h1 := h.nx hB
  go_enter Tryz.func110, Tryz.ntmps110
  go_upto_region 1 with (fail)
  generalize w.alloc (.cells #[.int .i64 id, .int .u32 ad, .int .i64 wt] 82) = w1 at *
  have p0 : w1.cell? ⟨w.heap.size, 0, none⟩ = some (.int .i64 id) := hp.cellv 0 rfl
  have p1 : w1.cell? ⟨w.heap.size, 1, none⟩ = some (.int .u32 ad) := hp.cellv 1 rfl
  have p2 : w1.cell? ⟨w.heap.size, 2, none⟩ = some (.int .i64 wt) := hp.cellv 2 rfl
  have ltp := hp.lt
  go_wp2_with fail
  all_goals first
    | (go_ret; exact ⟨rfl, h1, grown_of_below hB (Nat.le_refl _) _⟩)
    | (exfalso; unfold addOk wtB at hno; simp at hno; omega)
set_option maxRecDepth 100000 in
set_option maxHeartbeats 4000000 in
theorem refAddOk (w : World) (X : Nat → Prop) (g : Nat) (L : List SiteV) (id ad wt : Int) (h : RefIn w X g L) (hok : addOk id ad wt = true) (hn : L.length ≤ 8) (hX : ∀ b, w.heap.size ≤ b → X b) :
    Calls Tryz.prog 110 #[.pointer (some ⟨g, 0, none⟩), .agg #[.int .i64 id, .int .u32 ad, .int .i64 wt]] w fun e w' => e = .returned (.int .i64 (addR L id ad wt).1) ∧ RefIn w' X g (addR L id ad wt).2 ∧ w.grownBy w' (some g) := by
  have hr1 : 0 ≤ id ∧ id ≤ 255 ∧ ad ≠ 0 ∧ 0 ≤ wt ∧ wt ≤ 1000000 := by
    unfold addOk wtB at hok; simp at hok; exact ⟨hok.1.1.1, hok.1.1.2, hok.1.2, hok.2.1, hok.2.2⟩
  have hB := (Below.refl w.heap.size w).alloc (Nat.le_refl _) (.cells #[.int .i64 id, .int .u32 ad, .int .i64 wt] 82)
  have hp := Blk.new w 82 #[.int .i64 id, .int .u32 ad, .int .i64 wt]
  have h1 := h.nx hB
  go_enter Tryz.func110, Tryz.ntmps110
  go_upto_region 1 with (fail)
  generalize w.alloc (.cells #[.int .i64 id, .int .u32 ad, .int .i64 wt] 82) = w1 at *
  have p0 : w1.cell? ⟨w.heap.size, 0, none⟩ = some (.int .i64 id) := hp.cellv 0 rfl
  have p1 : w1.cell? ⟨w.heap.size, 1, none⟩ = some (.int .u32 ad) := hp.cellv 1 rfl
  have p2 : w1.cell? ⟨w.heap.size, 2, none⟩ = some (.int .i64 wt) := hp.cellv 2 rfl
  have ltp := hp.lt
  have d1 : decide (id < 0) = false := by simp; omega
  have d2 : decide (255 < id) = false := by simp; omega
  have d3 : (ad == 0) = false := by simpa using hr1.2.2.1
  have d4 : decide (wt < 0) = false := by simp; omega
  have d5 : decide (1000000 < wt) = false := by simp; omega
  go_upto_region 3 with (fail)
  clear p1 p2
  cases hf : findF L id with
  | some k =>
    have e : addR L id ad wt = (13, L) := by unfold addR; rw [if_neg (by rw [hok]; simp), hf]
    have hz : findZ L id = (k : Int) := by unfold findZ; rw [hf]
    replace e := Lib.hid e
    go_wp2_with (go_at_call 124; refine (refFind25 w1 X g L id h1 (by omega)).mono ?_; rintro e2 w2 ⟨rfl, hb⟩; rw [hz])
    go_ret
    rw [e.out]
    exact ⟨rfl, h1.nx hb, grown_of_below (hB.trans (hb.mono hB.size)) (Nat.le_refl _) _⟩
  | none =>
    have hz : findZ L id = -1 := by unfold findZ; rw [hf]
    go_upto_region 5 with (go_at_call 124; refine (refFind25 w1 X g L id h1 (by omega)).mono ?_; rintro e2 w2 ⟨rfl, hb⟩; rw [hz])
    replace hB := hB.trans (hb.mono hB.size)
    have hp2 := hp.below hb hp.lt
    have h2 := h1.nx hb
    replace hz := Lib.hid hz
    clear p0 ltp hp h1 hb
    obtain ⟨A, n, c, hnc, hcm, hq, hS⟩ := h2
    have hln := hS.1
    have c1 : w2.cell? ⟨g, 0, none⟩ = some (.slice A n c) := hq.cellv 0 rfl
    have ltg := hq.lt
    by_cases hfull : 8 ≤ n
    · have e : addR L id ad wt = (6, L) := by unfold addR; rw [if_neg (by rw [hok]; simp), hf, hln, if_pos hfull]
      replace e := Lib.hid e
      have d6 : decide ((8 : Int) ≤ n) = true := by simp; omega
      go_wp2_with fail
      go_ret
      rw [e.out]
      exact ⟨rfl, ⟨A, n, c, hnc, hcm, hq, hS⟩, grown_of_below hB (Nat.le_refl _) _⟩
    have e : addR L id ad wt = (0, insM L ⟨id, ad, wt⟩) := by unfold addR; rw [if_neg (by rw [hok]; simp), hf, hln, if_neg hfull]
    replace e := Lib.hid e
    have d6 : decide ((8 : Int) ≤ n) = false := by simp; omega
    have p0 : w2.cell? ⟨w.heap.size, 0, none⟩ = some (.int .i64 id) := hp2.cellv 0 rfl
    have ltp := hp2.lt
    replace hln := Lib.hid hln
    go_wp2_with fail
    go_loopw [5] (fun i wr => ∃ k : Nat, k ≤ n ∧ i = .int .i64 (k : Int) ∧ (∀ j x, j < k → L[j]? = some x → x.id < id) ∧ Below w2.heap.size w2 wr) (fun i _ => n - (intOf i).toNat)
    case atStart => exact ⟨0, Nat.zero_le _, rfl, fun j x hj => absurd hj (by omega), Below.refl _ _⟩
    case round =>
    obtain ⟨k, hk, rfl, hbelow, hBr⟩ := hrel
    have hzr := hBr.size
    have hqr := hq.below hBr ltg
    have hSr := (hS.below hBr fun b q => q.2).more (S' := fun b => X b ∧ b < wr.heap.size) fun b q => ⟨q.1, Nat.lt_of_lt_of_le q.2 hzr⟩
    have hpr := hp2.below hBr ltp
    have c1r : wr.cell? ⟨g, 0, none⟩ = some (.slice A n c) := hqr.cellv 0 rfl
    have p0r : wr.cell? ⟨w.heap.size, 0, none⟩ = some (.int .i64 id) := hpr.cellv 0 rfl
    have ltgr := hqr.lt
    have ltpr := hpr.lt
    have hn16 : n ≤ 8 := by omega
    clear c1 p0
    replace hbelow := Lib.hid hbelow
    by_cases hgo : ∃ m, L[k]? = some m ∧ m.id < id
    · obtain ⟨m, hm, hmid⟩ := hgo
      have hlt : k < n := by have := (List.getElem?_eq_some_iff.1 hm).1; have := hln.out; omega
      obtain ⟨b, off, m', rfl, hb', hr', q0, q1, q2, q3, q4⟩ := mem_cells hSr hlt
      rw [hm] at hr'
      injection hr' with hr'
      subst hr'
      have hbr : b < wr.heap.size := hb'.2
      have hki : (k : Int) < n := by omega
      have hb2 : ∀ j x, j < k + 1 → L[j]? = some x → x.id < id := by
        intro j x hj hx
        by_cases hjk : j < k
        · exact hbelow.out j x hjk hx
        · obtain rfl : j = k := by omega
          rw [hm] at hx; injection hx with hx; subst hx
          exact hmid
      replace hb2 := Lib.hid hb2
      have dlt : decide (m.id < id) = true := by simpa using hmid
      clear q1 q2 q3 q4
      go_upto_region 8 with (fail)
      -- region 8: 0 1 2 3 4 5 6 7 8 9 10 11 12 13 14 15 16 17 18 19 20
      try refine wp_region_noPanic ?_
      have hs1r : Below wr.heap.size wr wr.drew := (Below.refl _ _).drew
      refine wp_region_held_drew (S := fun w' => Below wr.heap.size wr w') (by kernel_rfl) hs1r (fun _ => ?_)
      (refine held_takeA 0 (by rfl) ?_ (by kernel_rfl) (fun _ _ _ h => h) hs1r ?_ ?_; rotate_left; (focus (intro wq hSw; have hrd : ∀ b o, b < wr.heap.size → wq.cell? ⟨b, o, none⟩ = wr.cell? ⟨b, o, none⟩ := (fun b o h => hSw.cell (p := ⟨b, o, none⟩) h); go_simp; try with_reducible rfl; done)); try simp only [Act.put, List.setIfInBounds_toArray, List.set_cons_zero, List.set_cons_succ])
      (refine held_takeA 1 (by rfl) ?_ (by kernel_rfl) (fun _ _ _ h => h) hs1r ?_ ?_; rotate_left; (focus (intro wq hSw; have hrd : ∀ b o, b < wr.heap.size → wq.cell? ⟨b, o, none⟩ = wr.cell? ⟨b, o, none⟩ := (fun b o h => hSw.cell (p := ⟨b, o, none⟩) h); go_simp; try with_reducible rfl; done)); try simp only [Act.put, List.setIfInBounds_toArray, List.set_cons_zero, List.set_cons_succ])
      (refine held_takeA 2 (by rfl) ?_ (by kernel_rfl) (fun _ _ _ h => h) hs1r ?_ ?_; rotate_left; (focus (intro wq hSw; have hrd : ∀ b o, b < wr.heap.size → wq.cell? ⟨b, o, none⟩ = wr.cell? ⟨b, o, none⟩ := (fun b o h => hSw.cell (p := ⟨b, o, none⟩) h); go_simp; try with_reducible rfl; done)); try simp only [Act.put, List.setIfInBounds_toArray, List.set_cons_zero, List.set_cons_succ])
      (refine held_takeA 3 (by rfl) ?_ (by kernel_rfl) (fun _ _ _ h => h) hs1r ?_ ?_; rotate_left; (focus (intro wq hSw; have hrd : ∀ b o, b < wr.heap.size → wq.cell? ⟨b, o, none⟩ = wr.cell? ⟨b, o, none⟩ := (fun b o h => hSw.cell (p := ⟨b, o, none⟩) h); go_simp; try with_reducible rfl; done)); try simp only [Act.put, List.setIfInBounds_toArray, List.set_cons_zero, List.set_cons_succ])
      (refine held_takeA 4 (by rfl) ?_ (by kernel_rfl) (fun _ _ _ h => h) hs1r ?_ ?_; rotate_left; (focus (intro wq hSw; have hrd : ∀ b o, b < wr.heap.size → wq.cell? ⟨b, o, none⟩ = wr.cell? ⟨b, o, none⟩ := (fun b o h => hSw.cell (p := ⟨b, o, none⟩) h); go_simp; try with_reducible rfl; done)); try simp only [Act.put, List.setIfInBounds_toArray, List.set_cons_zero, List.set_cons_succ])
      (refine held_takeA 5 (by rfl) ?_ (by kernel_rfl) (fun _ _ _ h => h) hs1r ?_ ?_; rotate_left; (focus (intro wq hSw; have hrd : ∀ b o, b < wr.heap.size → wq.cell? ⟨b, o, none⟩ = wr.cell? ⟨b, o, none⟩ := (fun b o h => hSw.cell (p := ⟨b, o, none⟩) h); go_simp; try with_reducible rfl; done)); try simp only [Act.put, List.setIfInBounds_toArray, List.set_cons_zero, List.set_cons_succ])
      (refine held_takeA 6 (by rfl) ?_ (by kernel_rfl) (fun _ _ _ h => h) hs1r ?_ ?_; rotate_left; (focus (intro wq hSw; have hrd : ∀ b o, b < wr.heap.size → wq.cell? ⟨b, o, none⟩ = wr.cell? ⟨b, o, none⟩ := (fun b o h => hSw.cell (p := ⟨b, o, none⟩) h); go_simp; try with_reducible rfl; done)); try simp only [Act.put, List.setIfInBounds_toArray, List.set_cons_zero, List.set_cons_succ])
      (refine held_takeA 7 (by rfl) ?_ (by kernel_rfl) (fun _ _ _ h => h) hs1r ?_ ?_; rotate_left; (focus (intro wq hSw; have hrd : ∀ b o, b < wr.heap.size → wq.cell? ⟨b, o, none⟩ = wr.cell? ⟨b, o, none⟩ := (fun b o h => hSw.cell (p := ⟨b, o, none⟩) h); go_simp; try with_reducible rfl; done)); try simp only [Act.put, List.setIfInBounds_toArray, List.set_cons_zero, List.set_cons_succ])
      (refine held_takeA 8 (by rfl) ?_ (by kernel_rfl) (fun _ _ _ h => h) hs1r ?_ ?_; rotate_left; (focus (intro wq hSw; have hrd : ∀ b o, b < wr.heap.size → wq.cell? ⟨b, o, none⟩ = wr.cell? ⟨b, o, none⟩ := (fun b o h => hSw.cell (p := ⟨b, o, none⟩) h); go_simp; try with_reducible rfl; done)); try simp only [Act.put, List.setIfInBounds_toArray, List.set_cons_zero, List.set_cons_succ])
      (refine held_takeA 9 (by rfl) ?_ (by kernel_rfl) (fun _ _ _ h => h) hs1r ?_ ?_; rotate_left; (focus (intro wq hSw; have hrd : ∀ b o, b < wr.heap.size → wq.cell? ⟨b, o, none⟩ = wr.cell? ⟨b, o, none⟩ := (fun b o h => hSw.cell (p := ⟨b, o, none⟩) h); go_simp; try with_reducible rfl; done)); try simp only [Act.put, List.setIfInBounds_toArray, List.set_cons_zero, List.set_cons_succ])
      (refine held_takeA 10 (by rfl) ?_ (by kernel_rfl) (fun _ _ _ h => h) hs1r ?_ ?_; rotate_left; (focus (intro wq hSw; have hrd : ∀ b o, b < wr.heap.size → wq.cell? ⟨b, o, none⟩ = wr.cell? ⟨b, o, none⟩ := (fun b o h => hSw.cell (p := ⟨b, o, none⟩) h); go_simp; try with_reducible rfl; done)); try simp only [Act.put, List.setIfInBounds_toArray, List.set_cons_zero, List.set_cons_succ])
      (refine held_takeA 11 (by rfl) ?_ (by kernel_rfl) (fun _ _ _ h => h) hs1r ?_ ?_; rotate_left; (focus (intro wq hSw; have hrd : ∀ b o, b < wr.heap.size → wq.cell? ⟨b, o, none⟩ = wr.cell? ⟨b, o, none⟩ := (fun b o h => hSw.cell (p := ⟨b, o, none⟩) h); go_simp; try with_reducible rfl; done)); try simp only [Act.put, List.setIfInBounds_toArray, List.set_cons_zero, List.set_cons_succ])
      (refine held_takeA 12 (by rfl) ?_ (by kernel_rfl) (fun _ _ _ h => h) hs1r ?_ ?_; rotate_left; (focus (intro wq hSw; have hrd : ∀ b o, b < wr.heap.size → wq.cell? ⟨b, o, none⟩ = wr.cell? ⟨b, o, none⟩ := (fun b o h => hSw.cell (p := ⟨b, o, none⟩) h); go_simp; try with_reducible rfl; done)); try simp only [Act.put, List.setIfInBounds_toArray, List.set_cons_zero, List.set_cons_succ])
      (refine held_takeA 13 (by rfl) ?_ (by kernel_rfl) (fun _ _ _ h => h) hs1r ?_ ?_; rotate_left; (focus (intro wq hSw; have hrd : ∀ b o, b < wr.heap.size → wq.cell? ⟨b, o, none⟩ = wr.cell? ⟨b, o, none⟩ := (fun b o h => hSw.cell (p := ⟨b, o, none⟩) h); go_simp; try with_reducible rfl; done)); try simp only [Act.put, List.setIfInBounds_toArray, List.set_cons_zero, List.set_cons_succ])
      (refine held_takeA 14 (by rfl) ?_ (by kernel_rfl) (fun _ _ _ h => h) hs1r ?_ ?_; rotate_left; (focus (intro wq hSw; have hrd : ∀ b o, b < wr.heap.size → wq.cell? ⟨b, o, none⟩ = wr.cell? ⟨b, o, none⟩ := (fun b o h => hSw.cell (p := ⟨b, o, none⟩) h); go_simp; try with_reducible rfl; done)); try simp only [Act.put, List.setIfInBounds_toArray, List.set_cons_zero, List.set_cons_succ])
      (refine held_takeA 15 (by rfl) ?_ (by kernel_rfl) (fun _ _ _ h => h) hs1r ?_ ?_; rotate_left; (focus (intro wq hSw; have hrd : ∀ b o, b < wr.heap.size → wq.cell? ⟨b, o, none⟩ = wr.cell? ⟨b, o, none⟩ := (fun b o h => hSw.cell (p := ⟨b, o, none⟩) h); go_simp; try with_reducible rfl; done)); try simp only [Act.put, List.setIfInBounds_toArray, List.set_cons_zero, List.set_cons_succ])
      (refine held_takeA 16 (by rfl) ?_ (by kernel_rfl) (fun _ _ _ h => h) hs1r ?_ ?_; rotate_left; (focus (intro wq hSw; have hrd : ∀ b o, b < wr.heap.size → wq.cell? ⟨b, o, none⟩ = wr.cell? ⟨b, o, none⟩ := (fun b o h => hSw.cell (p := ⟨b, o, none⟩) h); go_simp; try with_reducible rfl; done)); try simp only [Act.put, List.setIfInBounds_toArray, List.set_cons_zero, List.set_cons_succ])
      (refine held_takeA 17 (by rfl) ?_ (by kernel_rfl) (fun _ _ _ h => h) hs1r ?_ ?_; rotate_left; (focus (intro wq hSw; have hrd : ∀ b o, b < wr.heap.size → wq.cell? ⟨b, o, none⟩ = wr.cell? ⟨b, o, none⟩ := (fun b o h => hSw.cell (p := ⟨b, o, none⟩) h); go_simp; try with_reducible rfl; done)); try simp only [Act.put, List.setIfInBounds_toArray, List.set_cons_zero, List.set_cons_succ])
      (refine held_takeA 18 (by rfl) ?_ (by kernel_rfl) (fun _ _ _ h => h) hs1r ?_ ?_; rotate_left; (focus (intro wq hSw; have hrd : ∀ b o, b < wr.heap.size → wq.cell? ⟨b, o, none⟩ = wr.cell? ⟨b, o, none⟩ := (fun b o h => hSw.cell (p := ⟨b, o, none⟩) h); go_simp; try with_reducible rfl; done)); try simp only [Act.put, List.setIfInBounds_toArray, List.set_cons_zero, List.set_cons_succ])
      (refine held_takeA 19 (by rfl) ?_ (by kernel_rfl) (fun _ _ _ h => h) hs1r ?_ ?_; rotate_left; (focus (intro wq hSw; have hrd : ∀ b o, b < wr.heap.size → wq.cell? ⟨b, o, none⟩ = wr.cell? ⟨b, o, none⟩ := (fun b o h => hSw.cell (p := ⟨b, o, none⟩) h); go_simp; try with_reducible rfl; done)); try simp only [Act.put, List.setIfInBounds_toArray, List.set_cons_zero, List.set_cons_succ])
      (refine held_takeA 20 (by rfl) ?_ (by kernel_rfl) (fun _ _ _ h => h) hs1r ?_ ?_; rotate_left; (focus (intro wq hSw; have hrd : ∀ b o, b < wr.heap.size → wq.cell? ⟨b, o, none⟩ = wr.cell? ⟨b, o, none⟩ := (fun b o h => hSw.cell (p := ⟨b, o, none⟩) h); go_simp; try with_reducible rfl; done)); try simp only [Act.put, List.setIfInBounds_toArray, List.set_cons_zero, List.set_cons_succ])
      refine wpAnyH_done (by kernel_rfl) ?_ _
      try refine NoPanic.normal ?_
      go_wp2_with fail
      exact ⟨⟨k + 1, by omega, by go_num, hb2.out, hBr.drew⟩, by simp [intOf]; omega⟩
    have hge := Lib.hid (show ∀ x, L[k]? = some x → ¬ x.id < id from fun x hx hlt => hgo ⟨x, hx, hlt⟩)
    replace hgo := Lib.hid hgo
    obtain ⟨A1, hs1, hr1'⟩ := row_take elem_row size_row A n c k hk hnc
    obtain ⟨A2, hs2, hr2'⟩ := row_drop elem_row size_row A n c k hk hnc
    have hS1 := hr1' _ _ _ hSr
    have hS2 := hr2' _ _ _ hSr
    clear hr1' hr2'
    by_cases hlt : k < n
    · obtain ⟨b, off, m', rfl, hb', hr', q0, q1, q2, q3, q4⟩ := mem_cells hSr hlt
      have hbr : b < wr.heap.size := hb'.2
      have hki : (k : Int) < n := by omega
      have dlt : decide (m'.id < id) = false := by simpa using hge.out _ hr'
      clear q1 q2 q3 q4
      go_upto_region 8 with (fail)
      -- region 8: 0 1 2 3 4 5 6 7 8 9 10 11 12 13 14 15 16 17 18 19 20
      try refine wp_region_noPanic ?_
      have hs2r : Below wr.heap.size wr wr.drew := (Below.refl _ _).drew
      refine wp_region_held_drew (S := fun w' => Below wr.heap.size wr w') (by kernel_rfl) hs2r (fun _ => ?_)
      (refine held_takeA 0 (by rfl) ?_ (by kernel_rfl) (fun _ _ _ h => h) hs2r ?_ ?_; rotate_left; (focus (intro wq hSw; have hrd : ∀ b o, b < wr.heap.size → wq.cell? ⟨b, o, none⟩ = wr.cell? ⟨b, o, none⟩ := (fun b o h => hSw.cell (p := ⟨b, o, none⟩) h); go_simp; try with_reducible rfl; done)); try simp only [Act.put, List.setIfInBounds_toArray, List.set_cons_zero, List.set_cons_succ])
      (refine held_takeA 1 (by rfl) ?_ (by kernel_rfl) (fun _ _ _ h => h) hs2r ?_ ?_; rotate_left; (focus (intro wq hSw; have hrd : ∀ b o, b < wr.heap.size → wq.cell? ⟨b, o, none⟩ = wr.cell? ⟨b, o, none⟩ := (fun b o h => hSw.cell (p := ⟨b, o, none⟩) h); go_simp; try with_reducible rfl; done)); try simp only [Act.put, List.setIfInBounds_toArray, List.set_cons_zero, List.set_cons_succ])
      (refine held_takeA 2 (by rfl) ?_ (by kernel_rfl) (fun _ _ _ h => h) hs2r ?_ ?_; rotate_left; (focus (intro wq hSw; have hrd : ∀ b o, b < wr.heap.size → wq.cell? ⟨b, o, none⟩ = wr.cell? ⟨b, o, none⟩ := (fun b o h => hSw.cell (p := ⟨b, o, none⟩) h); go_simp; try with_reducible rfl; done)); try simp only [Act.put, List.setIfInBounds_toArray, List.set_cons_zero, List.set_cons_succ])
      (refine held_takeA 3 (by rfl) ?_ (by kernel_rfl) (fun _ _ _ h => h) hs2r ?_ ?_; rotate_left; (focus (intro wq hSw; have hrd : ∀ b o, b < wr.heap.size → wq.cell? ⟨b, o, none⟩ = wr.cell? ⟨b, o, none⟩ := (fun b o h => hSw.cell (p := ⟨b, o, none⟩) h); go_simp; try with_reducible rfl; done)); try simp only [Act.put, List.setIfInBounds_toArray, List.set_cons_zero, List.set_cons_succ])
      (refine held_takeA 4 (by rfl) ?_ (by kernel_rfl) (fun _ _ _ h => h) hs2r ?_ ?_; rotate_left; (focus (intro wq hSw; have hrd : ∀ b o, b < wr.heap.size → wq.cell? ⟨b, o, none⟩ = wr.cell? ⟨b, o, none⟩ := (fun b o h => hSw.cell (p := ⟨b, o, none⟩) h); go_simp; try with_reducible rfl; done)); try simp only [Act.put, List.setIfInBounds_toArray, List.set_cons_zero, List.set_cons_succ])
      (refine held_takeA 5 (by rfl) ?_ (by kernel_rfl) (fun _ _ _ h => h) hs2r ?_ ?_; rotate_left; (focus (intro wq hSw; have hrd : ∀ b o, b < wr.heap.size → wq.cell? ⟨b, o, none⟩ = wr.cell? ⟨b, o, none⟩ := (fun b o h => hSw.cell (p := ⟨b, o, none⟩) h); go_simp; try with_reducible rfl; done)); try simp only [Act.put, List.setIfInBounds_toArray, List.set_cons_zero, List.set_cons_succ])
      (refine held_takeA 6 (by rfl) ?_ (by kernel_rfl) (fun _ _ _ h => h) hs2r ?_ ?_; rotate_left; (focus (intro wq hSw; have hrd : ∀ b o, b < wr.heap.size → wq.cell? ⟨b, o, none⟩ = wr.cell? ⟨b, o, none⟩ := (fun b o h => hSw.cell (p := ⟨b, o, none⟩) h); go_simp; try with_reducible rfl; done)); try simp only [Act.put, List.setIfInBounds_toArray, List.set_cons_zero, List.set_cons_succ])
      (refine held_takeA 7 (by rfl) ?_ (by kernel_rfl) (fun _ _ _ h => h) hs2r ?_ ?_; rotate_left; (focus (intro wq hSw; have hrd : ∀ b o, b < wr.heap.size → wq.cell? ⟨b, o, none⟩ = wr.cell? ⟨b, o, none⟩ := (fun b o h => hSw.cell (p := ⟨b, o, none⟩) h); go_simp; try with_reducible rfl; done)); try simp only [Act.put, List.setIfInBounds_toArray, List.set_cons_zero, List.set_cons_succ])
      (refine held_takeA 8 (by rfl) ?_ (by kernel_rfl) (fun _ _ _ h => h) hs2r ?_ ?_; rotate_left; (focus (intro wq hSw; have hrd : ∀ b o, b < wr.heap.size → wq.cell? ⟨b, o, none⟩ = wr.cell? ⟨b, o, none⟩ := (fun b o h => hSw.cell (p := ⟨b, o, none⟩) h); go_simp; try with_reducible rfl; done)); try simp only [Act.put, List.setIfInBounds_toArray, List.set_cons_zero, List.set_cons_succ])
      (refine held_takeA 9 (by rfl) ?_ (by kernel_rfl) (fun _ _ _ h => h) hs2r ?_ ?_; rotate_left; (focus (intro wq hSw; have hrd : ∀ b o, b < wr.heap.size → wq.cell? ⟨b, o, none⟩ = wr.cell? ⟨b, o, none⟩ := (fun b o h => hSw.cell (p := ⟨b, o, none⟩) h); go_simp; try with_reducible rfl; done)); try simp only [Act.put, List.setIfInBounds_toArray, List.set_cons_zero, List.set_cons_succ])
      (refine held_takeA 10 (by rfl) ?_ (by kernel_rfl) (fun _ _ _ h => h) hs2r ?_ ?_; rotate_left; (focus (intro wq hSw; have hrd : ∀ b o, b < wr.heap.size → wq.cell? ⟨b, o, none⟩ = wr.cell? ⟨b, o, none⟩ := (fun b o h => hSw.cell (p := ⟨b, o, none⟩) h); go_simp; try with_reducible rfl; done)); try simp only [Act.put, List.setIfInBounds_toArray, List.set_cons_zero, List.set_cons_succ])
      (refine held_takeA 11 (by rfl) ?_ (by kernel_rfl) (fun _ _ _ h => h) hs2r ?_ ?_; rotate_left; (focus (intro wq hSw; have hrd : ∀ b o, b < wr.heap.size → wq.cell? ⟨b, o, none⟩ = wr.cell? ⟨b, o, none⟩ := (fun b o h => hSw.cell (p := ⟨b, o, none⟩) h); go_simp; try with_reducible rfl; done)); try simp only [Act.put, List.setIfInBounds_toArray, List.set_cons_zero, List.set_cons_succ])
      (refine held_takeA 12 (by rfl) ?_ (by kernel_rfl) (fun _ _ _ h => h) hs2r ?_ ?_; rotate_left; (focus (intro wq hSw; have hrd : ∀ b o, b < wr.heap.size → wq.cell? ⟨b, o, none⟩ = wr.cell? ⟨b, o, none⟩ := (fun b o h => hSw.cell (p := ⟨b, o, none⟩) h); go_simp; try with_reducible rfl; done)); try simp only [Act.put, List.setIfInBounds_toArray, List.set_cons_zero, List.set_cons_succ])
      (refine held_takeA 13 (by rfl) ?_ (by kernel_rfl) (fun _ _ _ h => h) hs2r ?_ ?_; rotate_left; (focus (intro wq hSw; have hrd : ∀ b o, b < wr.heap.size → wq.cell? ⟨b, o, none⟩ = wr.cell? ⟨b, o, none⟩ := (fun b o h => hSw.cell (p := ⟨b, o, none⟩) h); go_simp; try with_reducible rfl; done)); try simp only [Act.put, List.setIfInBounds_toArray, List.set_cons_zero, List.set_cons_succ])
      (refine held_takeA 14 (by rfl) ?_ (by kernel_rfl) (fun _ _ _ h => h) hs2r ?_ ?_; rotate_left; (focus (intro wq hSw; have hrd : ∀ b o, b < wr.heap.size → wq.cell? ⟨b, o, none⟩ = wr.cell? ⟨b, o, none⟩ := (fun b o h => hSw.cell (p := ⟨b, o, none⟩) h); go_simp; try with_reducible rfl; done)); try simp only [Act.put, List.setIfInBounds_toArray, List.set_cons_zero, List.set_cons_succ])
      (refine held_takeA 15 (by rfl) ?_ (by kernel_rfl) (fun _ _ _ h => h) hs2r ?_ ?_; rotate_left; (focus (intro wq hSw; have hrd : ∀ b o, b < wr.heap.size → wq.cell? ⟨b, o, none⟩ = wr.cell? ⟨b, o, none⟩ := (fun b o h => hSw.cell (p := ⟨b, o, none⟩) h); go_simp; try with_reducible rfl; done)); try simp only [Act.put, List.setIfInBounds_toArray, List.set_cons_zero, List.set_cons_succ])
      (refine held_takeA 16 (by rfl) ?_ (by kernel_rfl) (fun _ _ _ h => h) hs2r ?_ ?_; rotate_left; (focus (intro wq hSw; have hrd : ∀ b o, b < wr.heap.size → wq.cell? ⟨b, o, none⟩ = wr.cell? ⟨b, o, none⟩ := (fun b o h => hSw.cell (p := ⟨b, o, none⟩) h); go_simp; try with_reducible rfl; done)); try simp only [Act.put, List.setIfInBounds_toArray, List.set_cons_zero, List.set_cons_succ])
      (refine held_takeA 17 (by rfl) ?_ (by kernel_rfl) (fun _ _ _ h => h) hs2r ?_ ?_; rotate_left; (focus (intro wq hSw; have hrd : ∀ b o, b < wr.heap.size → wq.cell? ⟨b, o, none⟩ = wr.cell? ⟨b, o, none⟩ := (fun b o h => hSw.cell (p := ⟨b, o, none⟩) h); go_simp; try with_reducible rfl; done)); try simp only [Act.put, List.setIfInBounds_toArray, List.set_cons_zero, List.set_cons_succ])
      (refine held_takeA 18 (by rfl) ?_ (by kernel_rfl) (fun _ _ _ h => h) hs2r ?_ ?_; rotate_left; (focus (intro wq hSw; have hrd : ∀ b o, b < wr.heap.size → wq.cell? ⟨b, o, none⟩ = wr.cell? ⟨b, o, none⟩ := (fun b o h => hSw.cell (p := ⟨b, o, none⟩) h); go_simp; try with_reducible rfl; done)); try simp only [Act.put, List.setIfInBounds_toArray, List.set_cons_zero, List.set_cons_succ])
      (refine held_takeA 19 (by rfl) ?_ (by kernel_rfl) (fun _ _ _ h => h) hs2r ?_ ?_; rotate_left; (focus (intro wq hSw; have hrd : ∀ b o, b < wr.heap.size → wq.cell? ⟨b, o, none⟩ = wr.cell? ⟨b, o, none⟩ := (fun b o h => hSw.cell (p := ⟨b, o, none⟩) h); go_simp; try with_reducible rfl; done)); try simp only [Act.put, List.setIfInBounds_toArray, List.set_cons_zero, List.set_cons_succ])
      (refine held_takeA 20 (by rfl) ?_ (by kernel_rfl) (fun _ _ _ h => h) hs2r ?_ ?_; rotate_left; (focus (intro wq hSw; have hrd : ∀ b o, b < wr.heap.size → wq.cell? ⟨b, o, none⟩ = wr.cell? ⟨b, o, none⟩ := (fun b o h => hSw.cell (p := ⟨b, o, none⟩) h); go_simp; try with_reducible rfl; done)); try simp only [Act.put, List.setIfInBounds_toArray, List.set_cons_zero, List.set_cons_succ])
      refine wpAnyH_done (by kernel_rfl) ?_ _
      try refine NoPanic.normal ?_
      have hins := Lib.hid (ins_at (m := ⟨id, ad, wt⟩) (by rw [hln.out]; exact hk) hbelow.out hge.out)
      have hl1 : (L.take k).length = k := by rw [List.length_take, hln.out]; omega
      have hki : (k : Int) ≤ n := by omega
      go_upto_region 10 with (fail)
      have hqd : Blk wr.drew g 170 #[.slice (some ⟨b, off, none⟩) n c] := hqr
      have hpd : Blk wr.drew w.heap.size 82 #[.int .i64 id, .int .u32 ad, .int .i64 wt] := hpr
      have hS1d : Seen memK wr.drew (fun b => X b ∧ b < wr.drew.heap.size) A1 k (L.take k) := hS1
      have hS2d : Seen memK wr.drew (fun b => X b ∧ b < wr.drew.heap.size) A2 (n - k) (L.drop k) := hS2
      have hBd : Below w2.heap.size w2 wr.drew := hBr.drew
      clear c1r p0r ltgr ltpr hqr hpr hS1 hS2 hBr hSr hzr
      generalize wr.drew = wd at *
      have hzr := hBd.size
      have c1r : wd.cell? ⟨g, 0, none⟩ = some (.slice (some ⟨b, off, none⟩) n c) := hqd.cellv 0 rfl
      have p0r : wd.cell? ⟨w.heap.size, 0, none⟩ = some (.int .i64 id) := hpd.cellv 0 rfl
      have ltgr := hqd.lt
      have ltpr := hpd.lt
      -- region 10: 0 1M 2 3 4 5 6 7 8M 9 10 11M 12M 13 14 15 16 17 18 19M 20 21 22M
      try refine wp_region_noPanic ?_
      have hs3r : (fun w' => Below wd.heap.size wd w') wd.drew := (Below.refl _ _).drew
      refine wp_region_E 22 (S := fun w' => Below wd.heap.size wd w') (by kernel_rfl) hs3r (fun _ => ?_)
      (refine e_takeA 0 (by rfl) ?_ (by kernel_rfl) (fun _ _ _ h => h) hs3r ?_ ?_; rotate_left; (focus (intro wq hSw; have hrd := hSw; have hrd2 : ∀ b o, b < wd.heap.size → wq.cell? ⟨b, o, none⟩ = wd.cell? ⟨b, o, none⟩ := (fun b o h => Below.cell hSw (p := ⟨b, o, none⟩) h); go_simp; try with_reducible rfl; done)); try simp only [Act.put, List.setIfInBounds_toArray, List.set_cons_zero, List.set_cons_succ])
      (refine e_takeA 2 (by rfl) ?_ (by kernel_rfl) (fun _ _ _ h => h) hs3r ?_ ?_; rotate_left; (focus (intro wq hSw; have hrd := hSw; have hrd2 : ∀ b o, b < wd.heap.size → wq.cell? ⟨b, o, none⟩ = wd.cell? ⟨b, o, none⟩ := (fun b o h => Below.cell hSw (p := ⟨b, o, none⟩) h); go_simp; try with_reducible rfl; done)); try simp only [Act.put, List.setIfInBounds_toArray, List.set_cons_zero, List.set_cons_succ])
      (refine e_takeA 3 (by rfl) ?_ (by kernel_rfl) (fun _ _ _ h => h) hs3r ?_ ?_; rotate_left; (focus (intro wq hSw; have hrd := hSw; have hrd2 : ∀ b o, b < wd.heap.size → wq.cell? ⟨b, o, none⟩ = wd.cell? ⟨b, o, none⟩ := (fun b o h => Below.cell hSw (p := ⟨b, o, none⟩) h); go_simp; try with_reducible rfl; done)); try simp only [Act.put, List.setIfInBounds_toArray, List.set_cons_zero, List.set_cons_succ])
      (refine e_takeA 4 (by rfl) ?_ (by kernel_rfl) (fun _ _ _ h => h) hs3r ?_ ?_; rotate_left; (focus (intro wq hSw; have hrd := hSw; have hrd2 : ∀ b o, b < wd.heap.size → wq.cell? ⟨b, o, none⟩ = wd.cell? ⟨b, o, none⟩ := (fun b o h => Below.cell hSw (p := ⟨b, o, none⟩) h); go_simp; try with_reducible rfl; done)); try simp only [Act.put, List.setIfInBounds_toArray, List.set_cons_zero, List.set_cons_succ])
      (refine e_takeA 5 (by rfl) ?_ (by kernel_rfl) (fun _ _ _ h => h) hs3r ?_ ?_; rotate_left; (focus (intro wq hSw; have hrd := hSw; have hrd2 : ∀ b o, b < wd.heap.size → wq.cell? ⟨b, o, none⟩ = wd.cell? ⟨b, o, none⟩ := (fun b o h => Below.cell hSw (p := ⟨b, o, none⟩) h); go_simp; try with_reducible rfl; done)); try simp only [Act.put, List.setIfInBounds_toArray, List.set_cons_zero, List.set_cons_succ])
      (refine e_takeA 6 (by rfl) ?_ (by kernel_rfl) (fun _ _ _ h => h) hs3r ?_ ?_; rotate_left; (focus (intro wq hSw; have hrd := hSw; have hrd2 : ∀ b o, b < wd.heap.size → wq.cell? ⟨b, o, none⟩ = wd.cell? ⟨b, o, none⟩ := (fun b o h => Below.cell hSw (p := ⟨b, o, none⟩) h); go_simp; try with_reducible rfl; done)); try simp only [Act.put, List.setIfInBounds_toArray, List.set_cons_zero, List.set_cons_succ])
      (refine e_takeA 7 (by rfl) ?_ (by kernel_rfl) (fun _ _ _ h => h) hs3r ?_ ?_; rotate_left; (focus (intro wq hSw; have hrd := hSw; have hrd2 : ∀ b o, b < wd.heap.size → wq.cell? ⟨b, o, none⟩ = wd.cell? ⟨b, o, none⟩ := (fun b o h => Below.cell hSw (p := ⟨b, o, none⟩) h); go_simp; try with_reducible rfl; done)); try simp only [Act.put, List.setIfInBounds_toArray, List.set_cons_zero, List.set_cons_succ])
      (refine e_takeA 9 (by rfl) ?_ (by kernel_rfl) (fun _ _ _ h => h) hs3r ?_ ?_; rotate_left; (focus (intro wq hSw; refine exec_load_blk (x := .tmp 3) ?_ ?_ (hpd.below hSw hpd.lt) _ Tryz.underlying82 rfl (by kernel_rfl) <;> rfl)); simp only [Act.put, List.setIfInBounds_toArray, List.set_cons_zero, List.set_cons_succ])
      (refine e_takeA 10 (by rfl) ?_ (by kernel_rfl) (fun _ _ _ h => h) hs3r ?_ ?_; rotate_left; (focus (intro wq hSw; have hrd := hSw; have hrd2 : ∀ b o, b < wd.heap.size → wq.cell? ⟨b, o, none⟩ = wd.cell? ⟨b, o, none⟩ := (fun b o h => Below.cell hSw (p := ⟨b, o, none⟩) h); go_simp; try with_reducible rfl; done)); try simp only [Act.put, List.setIfInBounds_toArray, List.set_cons_zero, List.set_cons_succ])
      (refine e_takeA 13 (by rfl) ?_ (by kernel_rfl) (fun _ _ _ h => h) hs3r ?_ ?_; rotate_left; (focus (intro wq hSw; have hrd := hSw; have hrd2 : ∀ b o, b < wd.heap.size → wq.cell? ⟨b, o, none⟩ = wd.cell? ⟨b, o, none⟩ := (fun b o h => Below.cell hSw (p := ⟨b, o, none⟩) h); go_simp; try with_reducible rfl; done)); try simp only [Act.put, List.setIfInBounds_toArray, List.set_cons_zero, List.set_cons_succ])
      (refine e_takeA 14 (by rfl) ?_ (by kernel_rfl) (fun _ _ _ h => h) hs3r ?_ ?_; rotate_left; (focus (intro wq hSw; have hrd := hSw; have hrd2 : ∀ b o, b < wd.heap.size → wq.cell? ⟨b, o, none⟩ = wd.cell? ⟨b, o, none⟩ := (fun b o h => Below.cell hSw (p := ⟨b, o, none⟩) h); go_simp; try with_reducible rfl; done)); try simp only [Act.put, List.setIfInBounds_toArray, List.set_cons_zero, List.set_cons_succ])
      (refine e_takeA 15 (by rfl) ?_ (by kernel_rfl) (fun _ _ _ h => h) hs3r ?_ ?_; rotate_left; (focus (intro wq hSw; have hrd := hSw; have hrd2 : ∀ b o, b < wd.heap.size → wq.cell? ⟨b, o, none⟩ = wd.cell? ⟨b, o, none⟩ := (fun b o h => Below.cell hSw (p := ⟨b, o, none⟩) h); go_simp; try with_reducible rfl; done)); try simp only [Act.put, List.setIfInBounds_toArray, List.set_cons_zero, List.set_cons_succ])
      (refine e_takeA 16 (by rfl) ?_ (by kernel_rfl) (fun _ _ _ h => h) hs3r ?_ ?_; rotate_left; (focus (intro wq hSw; have hrd := hSw; have hrd2 : ∀ b o, b < wd.heap.size → wq.cell? ⟨b, o, none⟩ = wd.cell? ⟨b, o, none⟩ := (fun b o h => Below.cell hSw (p := ⟨b, o, none⟩) h); go_simp; try with_reducible rfl; done)); try simp only [Act.put, List.setIfInBounds_toArray, List.set_cons_zero, List.set_cons_succ])
      (refine e_takeA 17 (by rfl) ?_ (by kernel_rfl) (fun _ _ _ h => h) hs3r ?_ ?_; rotate_left; (focus (intro wq hSw; have hrd := hSw; have hrd2 : ∀ b o, b < wd.heap.size → wq.cell? ⟨b, o, none⟩ = wd.cell? ⟨b, o, none⟩ := (fun b o h => Below.cell hSw (p := ⟨b, o, none⟩) h); go_simp; try with_reducible rfl; done)); try simp only [Act.put, List.setIfInBounds_toArray, List.set_cons_zero, List.set_cons_succ])
      (refine e_takeA 18 (by rfl) ?_ (by kernel_rfl) (fun _ _ _ h => h) hs3r ?_ ?_; rotate_left; (focus (intro wq hSw; have hrd := hSw; have hrd2 : ∀ b o, b < wd.heap.size → wq.cell? ⟨b, o, none⟩ = wd.cell? ⟨b, o, none⟩ := (fun b o h => Below.cell hSw (p := ⟨b, o, none⟩) h); go_simp; try with_reducible rfl; done)); try simp only [Act.put, List.setIfInBounds_toArray, List.set_cons_zero, List.set_cons_succ])
      refine e_two 1 11 (by rfl) (by rfl) (by kernel_rfl) (by rfl) (by rfl) (fun KQ hKQ => ?_) (fun KQ hKQ => ?_)
      · skip
        have hbs : Below wd.heap.size wd wd.drew := (Below.refl _ _).drew
        go_simp
        have hd : (wd.alloc (.cells #[] 225)).drew = wd.drew.alloc (.cells #[] 225) := rfl
        try rw [hd]
        have hbs' := hbs.alloc hbs.size (.cells #[] 225)
        have hv : Rows memK (wd.drew.alloc (.cells #[] 225)) wd.heap.size wd.heap.size 225 (.slice (some ⟨wd.drew.heap.size, 0, none⟩) 0 0) [] := (rows_lit5 wd.drew).less hbs.size hbs.size
        skip
        skip
        skip
        generalize wd.drew.alloc (.cells #[] 225) = wa at *
        skip
        clear hd
        have hs4r := hbs'
        refine hKQ.out _ _ hs4r ?_
        clear hKQ KQ
        try simp only [Act.put, List.setIfInBounds_toArray, List.set_cons_zero, List.set_cons_succ]
        refine e_two 8 11 (by rfl) (by rfl) (by kernel_rfl) (by rfl) (by rfl) (fun KQ hKQ => ?_) (fun KQ hKQ => ?_)
        · skip
          have hSa := hS1d.below hbs' fun b q => q.2
          refine wp_rows memRow_ok (.tmp 67) (.tmp 73) (by rfl) hv (by rfl) (by rfl) hSa (fun _ _ => trivial) (by unfold maxLen; simp; omega) (by simp; omega) hbs'.size ?_
          intro vwb wb hvwb hgwb
          rw [List.nil_append] at hvwb
          have hbb := hv.below_app hgwb hbs'.size
          have hbs'' := hbs'.trans hbb
          have hv := hvwb
          have hs5r := hbs''
          refine hKQ.out _ _ hs5r ?_
          clear hKQ KQ
          try simp only [Act.put, List.setIfInBounds_toArray, List.set_cons_zero, List.set_cons_succ]
          refine e_callA 11 (by rfl) (by kernel_rfl) (by rfl) (fun KQ hKQ => ?_)
          go_simp
          have hbs''' := hbs''.alloc hbs''.size (.cells #[.int .i64 id, .int .u32 ad, .int .i64 wt, .int .i64 0, .int .i64 0] 225)
          obtain ⟨LB, hLB⟩ : ∃ LB, LB = wb.heap.size := ⟨_, rfl⟩
          have hseen : Seen memK (wb.alloc (.cells #[.int .i64 id, .int .u32 ad, .int .i64 wt, .int .i64 0, .int .i64 0] 225)) (fun b => b = LB) (some ⟨LB, 0, none⟩) 1 [(⟨id, ad, wt⟩ : SiteV)] := by
            rw [hLB]
            exact seen_one (R := memK) (S := fun _ => False) (S' := fun b => b = wb.heap.size) wb 225 (⟨id, ad, wt⟩ : SiteV) #[.int .i64 id, .int .u32 ad, .int .i64 wt, .int .i64 0, .int .i64 0] rfl trivial (fun _ h => h.elim) rfl (fun _ h => h.elim)
          have hlitlt : LB < (wb.alloc (.cells #[.int .i64 id, .int .u32 ad, .int .i64 wt, .int .i64 0, .int .i64 0] 225)).heap.size := by
            rw [hLB]
            show wb.heap.size < _
            simp
          have hapart := fun (e : _ = some LB) => (absurd (hv.own LB e).2 (by rw [hLB]; exact Nat.lt_irrefl _) : False)
          have hv := hv.alloc (.cells #[.int .i64 id, .int .u32 ad, .int .i64 wt, .int .i64 0, .int .i64 0] 225)
          generalize wb.alloc (.cells #[.int .i64 id, .int .u32 ad, .int .i64 wt, .int .i64 0, .int .i64 0] 225) = wc at *
          try rw [← hLB]
          clear hLB 
          have hs6r := hbs'''
          refine hKQ.out _ _ hs6r ?_
          clear hKQ KQ
          try simp only [Act.put, List.setIfInBounds_toArray, List.set_cons_zero, List.set_cons_succ]
          refine e_callA 12 (by rfl) (by kernel_rfl) (by rfl) (fun KQ hKQ => ?_)
          refine wp_rows memRow_ok (.tmp 74) (.tmp 77) (by rfl) hv (by rfl) (by rfl) hseen (fun _ _ => trivial) (by unfold maxLen; omega) (by omega) hbs'''.size ?_
          intro v8 w8 hv8 hg8
          have hb8 := hbs'''.trans (hv.below_app hg8 hbs'''.size)
          have hs7r := hb8
          refine hKQ.out _ _ hs7r ?_
          clear hKQ KQ
          try simp only [Act.put, List.setIfInBounds_toArray, List.set_cons_zero, List.set_cons_succ]
          have hSb := hS2d.below hb8 fun b q => q.2
          refine e_callA 19 (by rfl) (by kernel_rfl) (by rfl) (fun KQ hKQ => ?_)
          refine wp_rows memRow_ok (.tmp 78) (.tmp 84) (by rfl) hv8 (by rfl) (by rfl) hSb (fun _ _ => trivial) (by unfold maxLen; simp; omega) (by simp; omega) hb8.size ?_
          intro v9 w9 hv9 hg9
          rw [List.append_assoc, List.singleton_append, hins.out] at hv9
          have hb9 := hb8.trans (hv8.below_app hg9 hb8.size)
          have hlen9 : (insM L ⟨id, ad, wt⟩).length = n + 1 := by rw [← hins.out]; simp [hl1, hln.out]; omega
          obtain ⟨A9, c9, e9, hc9, hcm9, hS9⟩ := hv9.seen (Nat.le_refl _)
          rw [hlen9] at e9 hc9 hS9
          subst e9
          have hq9 := hqd.below hb9 ltgr
          have g9 := hq9.frozen 0
          have hz9 := hb9.size
          have ltg9 : g < w9.heap.size := hq9.lt
          have c9' : w9.cell? ⟨g, 0, none⟩ = some (.slice (some ⟨b, off, none⟩) n c) := hq9.cellv 0 rfl
          have hs8r := hb9
          refine hKQ.out _ _ hs8r ?_
          clear hKQ KQ
          try simp only [Act.put, List.setIfInBounds_toArray, List.set_cons_zero, List.set_cons_succ]
          (refine e_takeA 20 (by rfl) ?_ (by kernel_rfl) (fun _ _ _ h => h) hs8r ?_ ?_; rotate_left; (focus (intro wq hSw; have hrd := hSw; have hrd2 : ∀ b o, b < wd.heap.size → wq.cell? ⟨b, o, none⟩ = wd.cell? ⟨b, o, none⟩ := (fun b o h => Below.cell hSw (p := ⟨b, o, none⟩) h); go_simp; try with_reducible rfl; done)); try simp only [Act.put, List.setIfInBounds_toArray, List.set_cons_zero, List.set_cons_succ])
          (refine e_takeA 21 (by rfl) ?_ (by kernel_rfl) (fun _ _ _ h => h) hs8r ?_ ?_; rotate_left; (focus (intro wq hSw; have hrd := hSw; have hrd2 : ∀ b o, b < wd.heap.size → wq.cell? ⟨b, o, none⟩ = wd.cell? ⟨b, o, none⟩ := (fun b o h => Below.cell hSw (p := ⟨b, o, none⟩) h); go_simp; try with_reducible rfl; done)); try simp only [Act.put, List.setIfInBounds_toArray, List.set_cons_zero, List.set_cons_succ])
          refine e_last (by rfl) (by kernel_rfl) (by rfl) (fun KQ hKQ => ?_)
          go_simp
          obtain ⟨hq6, hg6⟩ := blk_store hq9 0 (.slice A9 (n + 1) c9)
          replace hq6 : Blk (w9.setCell ⟨g, 0, none⟩ (.slice A9 (n + 1) c9)) g 170 #[.slice A9 (n + 1) c9] := hq6
          have hS6 := hS9.grown hg6 fun b q => ⟨q.2, fun e => by injection e with e; omega⟩
          generalize w9.setCell ⟨g, 0, none⟩ (.slice A9 (n + 1) c9) = w6 at *
          refine hKQ.out _ _ ?_
          clear hKQ KQ
          try simp only [Act.put]
          refine e_done (by kernel_rfl) ?_ _
          try refine NoPanic.normal ?_
          go_wp2_with fail
          go_ret
          rw [e.out]
          refine ⟨rfl, ⟨A9, _, c9, hc9, hcm9, hq6, hS6.more fun b q => ⟨hX b (Nat.le_trans (Nat.le_trans hB.size hzr) q.1), Nat.lt_of_lt_of_le q.2 hg6.size⟩⟩, ?_⟩
          exact grown_trans (grown_of_below (hB.trans (hBd.mono hB.size)) (Nat.le_refl _) _) (grown_trans (grown_of_below hb9 (Nat.le_refl _) _) hg6)
        · skip
          go_simp
          have hbs'' := hbs'.alloc hbs'.size (.cells #[.int .i64 id, .int .u32 ad, .int .i64 wt, .int .i64 0, .int .i64 0] 225)
          obtain ⟨LB, hLB⟩ : ∃ LB, LB = wa.heap.size := ⟨_, rfl⟩
          have hseen : Seen memK (wa.alloc (.cells #[.int .i64 id, .int .u32 ad, .int .i64 wt, .int .i64 0, .int .i64 0] 225)) (fun b => b = LB) (some ⟨LB, 0, none⟩) 1 [(⟨id, ad, wt⟩ : SiteV)] := by
            rw [hLB]
            exact seen_one (R := memK) (S := fun _ => False) (S' := fun b => b = wa.heap.size) wa 225 (⟨id, ad, wt⟩ : SiteV) #[.int .i64 id, .int .u32 ad, .int .i64 wt, .int .i64 0, .int .i64 0] rfl trivial (fun _ h => h.elim) rfl (fun _ h => h.elim)
          have hlitlt : LB < (wa.alloc (.cells #[.int .i64 id, .int .u32 ad, .int .i64 wt, .int .i64 0, .int .i64 0] 225)).heap.size := by
            rw [hLB]
            show wa.heap.size < _
            simp
          have hapart := fun (e : _ = some LB) => (absurd (hv.own LB e).2 (by rw [hLB]; exact Nat.lt_irrefl _) : False)
          have hv := hv.alloc (.cells #[.int .i64 id, .int .u32 ad, .int .i64 wt, .int .i64 0, .int .i64 0] 225)
          generalize wa.alloc (.cells #[.int .i64 id, .int .u32 ad, .int .i64 wt, .int .i64 0, .int .i64 0] 225) = wb at *
          try rw [← hLB]
          clear hLB 
          have hs9r := hbs''
          refine hKQ.out _ _ hs9r ?_
          clear hKQ KQ
          try simp only [Act.put, List.setIfInBounds_toArray, List.set_cons_zero, List.set_cons_succ]
          refine e_callA 8 (by rfl) (by kernel_rfl) (by rfl) (fun KQ hKQ => ?_)
          have hSa := hS1d.below hbs'' fun b q => q.2
          refine wp_rows memRow_ok (.tmp 67) (.tmp 73) (by rfl) hv (by rfl) (by rfl) hSa (fun _ _ => trivial) (by unfold maxLen; simp; omega) (by simp; omega) hbs''.size ?_
          intro vwc wc hvwc hgwc
          rw [List.nil_append] at hvwc
          have hbb := hv.below_app hgwc hbs''.size
          have hseen := hseen.grown hgwc (fun b q => ⟨by rw [q]; exact hlitlt, by rw [q]; intro e; exact hapart e⟩)
          have hlitlt := Nat.lt_of_lt_of_le hlitlt hbb.size
          have hbs''' := hbs''.trans hbb
          have hv := hvwc
          have hs10r := hbs'''
          refine hKQ.out _ _ hs10r ?_
          clear hKQ KQ
          try simp only [Act.put, List.setIfInBounds_toArray, List.set_cons_zero, List.set_cons_succ]
          refine e_callA 12 (by rfl) (by kernel_rfl) (by rfl) (fun KQ hKQ => ?_)
          refine wp_rows memRow_ok (.tmp 74) (.tmp 77) (by rfl) hv (by rfl) (by rfl) hseen (fun _ _ => trivial) (by unfold maxLen; omega) (by omega) hbs'''.size ?_
          intro v8 w8 hv8 hg8
          have hb8 := hbs'''.trans (hv.below_app hg8 hbs'''.size)
          have hs11r := hb8
          refine hKQ.out _ _ hs11r ?_
          clear hKQ KQ
          try simp only [Act.put, List.setIfInBounds_toArray, List.set_cons_zero, List.set_cons_succ]
          have hSb := hS2d.below hb8 fun b q => q.2
          refine e_callA 19 (by rfl) (by kernel_rfl) (by rfl) (fun KQ hKQ => ?_)
          refine wp_rows memRow_ok (.tmp 78) (.tmp 84) (by rfl) hv8 (by rfl) (by rfl) hSb (fun _ _ => trivial) (by unfold maxLen; simp; omega) (by simp; omega) hb8.size ?_
          intro v9 w9 hv9 hg9
          rw [List.append_assoc, List.singleton_append, hins.out] at hv9
          have hb9 := hb8.trans (hv8.below_app hg9 hb8.size)
          have hlen9 : (insM L ⟨id, ad, wt⟩).length = n + 1 := by rw [← hins.out]; simp [hl1, hln.out]; omega
          obtain ⟨A9, c9, e9, hc9, hcm9, hS9⟩ := hv9.seen (Nat.le_refl _)
          rw [hlen9] at e9 hc9 hS9
          subst e9
          have hq9 := hqd.below hb9 ltgr
          have g9 := hq9.frozen 0
          have hz9 := hb9.size
          have ltg9 : g < w9.heap.size := hq9.lt
          have c9' : w9.cell? ⟨g, 0, none⟩ = some (.slice (some ⟨b, off, none⟩) n c) := hq9.cellv 0 rfl
          have hs12r := hb9
          refine hKQ.out _ _ hs12r ?_
          clear hKQ KQ
          try simp only [Act.put, List.setIfInBounds_toArray, List.set_cons_zero, List.set_cons_succ]
          (refine e_takeA 20 (by rfl) ?_ (by kernel_rfl) (fun _ _ _ h => h) hs12r ?_ ?_; rotate_left; (focus (intro wq hSw; have hrd := hSw; have hrd2 : ∀ b o, b < wd.heap.size → wq.cell? ⟨b, o, none⟩ = wd.cell? ⟨b, o, none⟩ := (fun b o h => Below.cell hSw (p := ⟨b, o, none⟩) h); go_simp; try with_reducible rfl; done)); try simp only [Act.put, List.setIfInBounds_toArray, List.set_cons_zero, List.set_cons_succ])
          (refine e_takeA 21 (by rfl) ?_ (by kernel_rfl) (fun _ _ _ h => h) hs12r ?_ ?_; rotate_left; (focus (intro wq hSw; have hrd := hSw; have hrd2 : ∀ b o, b < wd.heap.size → wq.cell? ⟨b, o, none⟩ = wd.cell? ⟨b, o, none⟩ := (fun b o h => Below.cell hSw (p := ⟨b, o, none⟩) h); go_simp; try with_reducible rfl; done)); try simp only [Act.put, List.setIfInBounds_toArray, List.set_cons_zero, List.set_cons_succ])
          refine e_last (by rfl) (by kernel_rfl) (by rfl) (fun KQ hKQ => ?_)
          go_simp
          obtain ⟨hq6, hg6⟩ := blk_store hq9 0 (.slice A9 (n + 1) c9)
          replace hq6 : Blk (w9.setCell ⟨g, 0, none⟩ (.slice A9 (n + 1) c9)) g 170 #[.slice A9 (n + 1) c9] := hq6
          have hS6 := hS9.grown hg6 fun b q => ⟨q.2, fun e => by injection e with e; omega⟩
          generalize w9.setCell ⟨g, 0, none⟩ (.slice A9 (n + 1) c9) = w6 at *
          refine hKQ.out _ _ ?_
          clear hKQ KQ
          try simp only [Act.put]
          refine e_done (by kernel_rfl) ?_ _
          try refine NoPanic.normal ?_
          go_wp2_with fail
          go_ret
          rw [e.out]
          refine ⟨rfl, ⟨A9, _, c9, hc9, hcm9, hq6, hS6.more fun b q => ⟨hX b (Nat.le_trans (Nat.le_trans hB.size hzr) q.1), Nat.lt_of_lt_of_le q.2 hg6.size⟩⟩, ?_⟩
          exact grown_trans (grown_of_below (hB.trans (hBd.mono hB.size)) (Nat.le_refl _) _) (grown_trans (grown_of_below hb9 (Nat.le_refl _) _) hg6)
      · skip
        have hbs : Below wd.heap.size wd wd.drew := (Below.refl _ _).drew
        go_simp
        have hd : (wd.alloc (.cells #[.int .i64 id, .int .u32 ad, .int .i64 wt, .int .i64 0, .int .i64 0] 225)).drew = wd.drew.alloc (.cells #[.int .i64 id, .int .u32 ad, .int .i64 wt, .int .i64 0, .int .i64 0] 225) := rfl
        try rw [hd]
        have hbs' := hbs.alloc hbs.size (.cells #[.int .i64 id, .int .u32 ad, .int .i64 wt, .int .i64 0, .int .i64 0] 225)
        obtain ⟨LB, hLB⟩ : ∃ LB, LB = wd.heap.size := ⟨_, rfl⟩
        have hseen : Seen memK (wd.drew.alloc (.cells #[.int .i64 id, .int .u32 ad, .int .i64 wt, .int .i64 0, .int .i64 0] 225)) (fun b => b = LB) (some ⟨LB, 0, none⟩) 1 [(⟨id, ad, wt⟩ : SiteV)] := by
          rw [hLB]
          exact seen_one (R := memK) (S := fun _ => False) (S' := fun b => b = wd.heap.size) wd.drew 225 (⟨id, ad, wt⟩ : SiteV) #[.int .i64 id, .int .u32 ad, .int .i64 wt, .int .i64 0, .int .i64 0] rfl trivial (fun _ h => h.elim) rfl (fun _ h => h.elim)
        have hlitlt : LB < (wd.drew.alloc (.cells #[.int .i64 id, .int .u32 ad, .int .i64 wt, .int .i64 0, .int .i64 0] 225)).heap.size := by
          rw [hLB]
          show wd.drew.heap.size < _
          simp
        skip
        skip
        generalize wd.drew.alloc (.cells #[.int .i64 id, .int .u32 ad, .int .i64 wt, .int .i64 0, .int .i64 0] 225) = wa at *
        try rw [← hLB]
        clear hLB hd
        have hs13r := hbs'
        refine hKQ.out _ _ hs13r ?_
        clear hKQ KQ
        try simp only [Act.put, List.setIfInBounds_toArray, List.set_cons_zero, List.set_cons_succ]
        refine e_callA 1 (by rfl) (by kernel_rfl) (by rfl) (fun KQ hKQ => ?_)
        go_simp
        have hbs'' := hbs'.alloc hbs'.size (.cells #[] 225)
        have hv : Rows memK (wa.alloc (.cells #[] 225)) wd.heap.size wd.heap.size 225 (.slice (some ⟨wa.heap.size, 0, none⟩) 0 0) [] := (rows_lit5 wa).less hbs'.size hbs'.size
        have hseen := hseen.below (w' := wa.alloc (.cells #[] 225)) ((Below.refl _ _).alloc (Nat.le_refl _) _) (fun b q => by rw [q]; exact hlitlt)
        have hlitlt2 : LB < (wa.alloc (.cells #[] 225)).heap.size := Nat.lt_of_lt_of_le hlitlt (by simp)
        have hapart : (Value.slice (some ⟨wa.heap.size, 0, none⟩) 0 0).ownBlock = some LB → False := fun e => by (have e2 : some wa.heap.size = some LB := e); injection e2 with e2; omega
        generalize wa.alloc (.cells #[] 225) = wb at *
        replace hlitlt := hlitlt2
        skip
        have hs14r := hbs''
        refine hKQ.out _ _ hs14r ?_
        clear hKQ KQ
        try simp only [Act.put, List.setIfInBounds_toArray, List.set_cons_zero, List.set_cons_succ]
        refine e_callA 8 (by rfl) (by kernel_rfl) (by rfl) (fun KQ hKQ => ?_)
        have hSa := hS1d.below hbs'' fun b q => q.2
        refine wp_rows memRow_ok (.tmp 67) (.tmp 73) (by rfl) hv (by rfl) (by rfl) hSa (fun _ _ => trivial) (by unfold maxLen; simp; omega) (by simp; omega) hbs''.size ?_
        intro vwc wc hvwc hgwc
        rw [List.nil_append] at hvwc
        have hbb := hv.below_app hgwc hbs''.size
        have hseen := hseen.grown hgwc (fun b q => ⟨by rw [q]; exact hlitlt, by rw [q]; intro e; exact hapart e⟩)
        have hlitlt := Nat.lt_of_lt_of_le hlitlt hbb.size
        have hbs''' := hbs''.trans hbb
        have hv := hvwc
        have hs15r := hbs'''
        refine hKQ.out _ _ hs15r ?_
        clear hKQ KQ
        try simp only [Act.put, List.setIfInBounds_toArray, List.set_cons_zero, List.set_cons_succ]
        refine e_callA 12 (by rfl) (by kernel_rfl) (by rfl) (fun KQ hKQ => ?_)
        refine wp_rows memRow_ok (.tmp 74) (.tmp 77) (by rfl) hv (by rfl) (by rfl) hseen (fun _ _ => trivial) (by unfold maxLen; omega) (by omega) hbs'''.size ?_
        intro v8 w8 hv8 hg8
        have hb8 := hbs'''.trans (hv.below_app hg8 hbs'''.size)
        have hs16r := hb8
        refine hKQ.out _ _ hs16r ?_
        clear hKQ KQ
        try simp only [Act.put, List.setIfInBounds_toArray, List.set_cons_zero, List.set_cons_succ]
        have hSb := hS2d.below hb8 fun b q => q.2
        refine e_callA 19 (by rfl) (by kernel_rfl) (by rfl) (fun KQ hKQ => ?_)
        refine wp_rows memRow_ok (.tmp 78) (.tmp 84) (by rfl) hv8 (by rfl) (by rfl) hSb (fun _ _ => trivial) (by unfold maxLen; simp; omega) (by simp; omega) hb8.size ?_
        intro v9 w9 hv9 hg9
        rw [List.append_assoc, List.singleton_append, hins.out] at hv9
        have hb9 := hb8.trans (hv8.below_app hg9 hb8.size)
        have hlen9 : (insM L ⟨id, ad, wt⟩).length = n + 1 := by rw [← hins.out]; simp [hl1, hln.out]; omega
        obtain ⟨A9, c9, e9, hc9, hcm9, hS9⟩ := hv9.seen (Nat.le_refl _)
        rw [hlen9] at e9 hc9 hS9
        subst e9
        have hq9 := hqd.below hb9 ltgr
        have g9 := hq9.frozen 0
        have hz9 := hb9.size
        have ltg9 : g < w9.heap.size := hq9.lt
        have c9' : w9.cell? ⟨g, 0, none⟩ = some (.slice (some ⟨b, off, none⟩) n c) := hq9.cellv 0 rfl
        have hs17r := hb9
        refine hKQ.out _ _ hs17r ?_
        clear hKQ KQ
        try simp only [Act.put, List.setIfInBounds_toArray, List.set_cons_zero, List.set_cons_succ]
        (refine e_takeA 20 (by rfl) ?_ (by kernel_rfl) (fun _ _ _ h => h) hs17r ?_ ?_; rotate_left; (focus (intro wq hSw; have hrd := hSw; have hrd2 : ∀ b o, b < wd.heap.size → wq.cell? ⟨b, o, none⟩ = wd.cell? ⟨b, o, none⟩ := (fun b o h => Below.cell hSw (p := ⟨b, o, none⟩) h); go_simp; try with_reducible rfl; done)); try simp only [Act.put, List.setIfInBounds_toArray, List.set_cons_zero, List.set_cons_succ])
        (refine e_takeA 21 (by rfl) ?_ (by kernel_rfl) (fun _ _ _ h => h) hs17r ?_ ?_; rotate_left; (focus (intro wq hSw; have hrd := hSw; have hrd2 : ∀ b o, b < wd.heap.size → wq.cell? ⟨b, o, none⟩ = wd.cell? ⟨b, o, none⟩ := (fun b o h => Below.cell hSw (p := ⟨b, o, none⟩) h); go_simp; try with_reducible rfl; done)); try simp only [Act.put, List.setIfInBounds_toArray, List.set_cons_zero, List.set_cons_succ])
        refine e_last (by rfl) (by kernel_rfl) (by rfl) (fun KQ hKQ => ?_)
        go_simp
        obtain ⟨hq6, hg6⟩ := blk_store hq9 0 (.slice A9 (n + 1) c9)
        replace hq6 : Blk (w9.setCell ⟨g, 0, none⟩ (.slice A9 (n + 1) c9)) g 170 #[.slice A9 (n + 1) c9] := hq6
        have hS6 := hS9.grown hg6 fun b q => ⟨q.2, fun e => by injection e with e; omega⟩
        generalize w9.setCell ⟨g, 0, none⟩ (.slice A9 (n + 1) c9) = w6 at *
        refine hKQ.out _ _ ?_
        clear hKQ KQ
        try simp only [Act.put]
        refine e_done (by kernel_rfl) ?_ _
        try refine NoPanic.normal ?_
        go_wp2_with fail
        go_ret
        rw [e.out]
        refine ⟨rfl, ⟨A9, _, c9, hc9, hcm9, hq6, hS6.more fun b q => ⟨hX b (Nat.le_trans (Nat.le_trans hB.size hzr) q.1), Nat.lt_of_lt_of_le q.2 hg6.size⟩⟩, ?_⟩
        exact grown_trans (grown_of_below (hB.trans (hBd.mono hB.size)) (Nat.le_refl _) _) (grown_trans (grown_of_below hb9 (Nat.le_refl _) _) hg6)
    · have hkn : k = n := by omega
      have dkn : decide ((k : Int) < n) = false := by simp; omega
      have dkn2 : decide (k < n) = false := by simp; omega
      replace hkn := Lib.hid hkn
      go_upto_region 8 with (fail)
      -- region 8: 0 1 2 3 4 5 6 7 8 9 10 11 12 13 14 15 16 17 18 19 20
      try refine wp_region_noPanic ?_
      have hs18r : Below wr.heap.size wr wr.drew := (Below.refl _ _).drew
      refine wp_region_held_drew (S := fun w' => Below wr.heap.size wr w') (by kernel_rfl) hs18r (fun _ => ?_)
      (refine held_takeA 0 (by rfl) ?_ (by kernel_rfl) (fun _ _ _ h => h) hs18r ?_ ?_; rotate_left; (focus (intro wq hSw; have hrd : ∀ b o, b < wr.heap.size → wq.cell? ⟨b, o, none⟩ = wr.cell? ⟨b, o, none⟩ := (fun b o h => hSw.cell (p := ⟨b, o, none⟩) h); go_simp; try with_reducible rfl; done)); try simp only [Act.put, List.setIfInBounds_toArray, List.set_cons_zero, List.set_cons_succ])
      (refine held_takeA 1 (by rfl) ?_ (by kernel_rfl) (fun _ _ _ h => h) hs18r ?_ ?_; rotate_left; (focus (intro wq hSw; have hrd : ∀ b o, b < wr.heap.size → wq.cell? ⟨b, o, none⟩ = wr.cell? ⟨b, o, none⟩ := (fun b o h => hSw.cell (p := ⟨b, o, none⟩) h); go_simp; try with_reducible rfl; done)); try simp only [Act.put, List.setIfInBounds_toArray, List.set_cons_zero, List.set_cons_succ])
      (refine held_takeA 2 (by rfl) ?_ (by kernel_rfl) (fun _ _ _ h => h) hs18r ?_ ?_; rotate_left; (focus (intro wq hSw; have hrd : ∀ b o, b < wr.heap.size → wq.cell? ⟨b, o, none⟩ = wr.cell? ⟨b, o, none⟩ := (fun b o h => hSw.cell (p := ⟨b, o, none⟩) h); go_simp; try with_reducible rfl; done)); try simp only [Act.put, List.setIfInBounds_toArray, List.set_cons_zero, List.set_cons_succ])
      (refine held_takeA 3 (by rfl) ?_ (by kernel_rfl) (fun _ _ _ h => h) hs18r ?_ ?_; rotate_left; (focus (intro wq hSw; have hrd : ∀ b o, b < wr.heap.size → wq.cell? ⟨b, o, none⟩ = wr.cell? ⟨b, o, none⟩ := (fun b o h => hSw.cell (p := ⟨b, o, none⟩) h); go_simp; try with_reducible rfl; done)); try simp only [Act.put, List.setIfInBounds_toArray, List.set_cons_zero, List.set_cons_succ])
      (refine held_takeA 4 (by rfl) ?_ (by kernel_rfl) (fun _ _ _ h => h) hs18r ?_ ?_; rotate_left; (focus (intro wq hSw; have hrd : ∀ b o, b < wr.heap.size → wq.cell? ⟨b, o, none⟩ = wr.cell? ⟨b, o, none⟩ := (fun b o h => hSw.cell (p := ⟨b, o, none⟩) h); go_simp; try with_reducible rfl; done)); try simp only [Act.put, List.setIfInBounds_toArray, List.set_cons_zero, List.set_cons_succ])
      (refine held_takeA 5 (by rfl) ?_ (by kernel_rfl) (fun _ _ _ h => h) hs18r ?_ ?_; rotate_left; (focus (intro wq hSw; have hrd : ∀ b o, b < wr.heap.size → wq.cell? ⟨b, o, none⟩ = wr.cell? ⟨b, o, none⟩ := (fun b o h => hSw.cell (p := ⟨b, o, none⟩) h); go_simp; try with_reducible rfl; done)); try simp only [Act.put, List.setIfInBounds_toArray, List.set_cons_zero, List.set_cons_succ])
      (refine held_takeA 6 (by rfl) ?_ (by kernel_rfl) (fun _ _ _ h => h) hs18r ?_ ?_; rotate_left; (focus (intro wq hSw; have hrd : ∀ b o, b < wr.heap.size → wq.cell? ⟨b, o, none⟩ = wr.cell? ⟨b, o, none⟩ := (fun b o h => hSw.cell (p := ⟨b, o, none⟩) h); go_simp; try with_reducible rfl; done)); try simp only [Act.put, List.setIfInBounds_toArray, List.set_cons_zero, List.set_cons_succ])
      (refine held_takeA 7 (by rfl) ?_ (by kernel_rfl) (fun _ _ _ h => h) hs18r ?_ ?_; rotate_left; (focus (intro wq hSw; have hrd : ∀ b o, b < wr.heap.size → wq.cell? ⟨b, o, none⟩ = wr.cell? ⟨b, o, none⟩ := (fun b o h => hSw.cell (p := ⟨b, o, none⟩) h); go_simp; try with_reducible rfl; done)); try simp only [Act.put, List.setIfInBounds_toArray, List.set_cons_zero, List.set_cons_succ])
      (refine held_skipA 8 (by rfl) (by kernel_rfl) (fun _ _ _ h => h) hs18r ?_; try simp only [Act.put, List.setIfInBounds_toArray, List.set_cons_zero, List.set_cons_succ])
      (refine held_skipA 9 (by rfl) (by kernel_rfl) (fun _ _ _ h => h) hs18r ?_; try simp only [Act.put, List.setIfInBounds_toArray, List.set_cons_zero, List.set_cons_succ])
      (refine held_skipA 10 (by rfl) (by kernel_rfl) (fun _ _ _ h => h) hs18r ?_; try simp only [Act.put, List.setIfInBounds_toArray, List.set_cons_zero, List.set_cons_succ])
      (refine held_skipA 11 (by rfl) (by kernel_rfl) (fun _ _ _ h => h) hs18r ?_; try simp only [Act.put, List.setIfInBounds_toArray, List.set_cons_zero, List.set_cons_succ])
      (refine held_skipA 12 (by rfl) (by kernel_rfl) (fun _ _ _ h => h) hs18r ?_; try simp only [Act.put, List.setIfInBounds_toArray, List.set_cons_zero, List.set_cons_succ])
      (refine held_skipA 13 (by rfl) (by kernel_rfl) (fun _ _ _ h => h) hs18r ?_; try simp only [Act.put, List.setIfInBounds_toArray, List.set_cons_zero, List.set_cons_succ])
      (refine held_skipA 14 (by rfl) (by kernel_rfl) (fun _ _ _ h => h) hs18r ?_; try simp only [Act.put, List.setIfInBounds_toArray, List.set_cons_zero, List.set_cons_succ])
      (refine held_skipA 15 (by rfl) (by kernel_rfl) (fun _ _ _ h => h) hs18r ?_; try simp only [Act.put, List.setIfInBounds_toArray, List.set_cons_zero, List.set_cons_succ])
      (refine held_skipA 16 (by rfl) (by kernel_rfl) (fun _ _ _ h => h) hs18r ?_; try simp only [Act.put, List.setIfInBounds_toArray, List.set_cons_zero, List.set_cons_succ])
      (refine held_skipA 17 (by rfl) (by kernel_rfl) (fun _ _ _ h => h) hs18r ?_; try simp only [Act.put, List.setIfInBounds_toArray, List.set_cons_zero, List.set_cons_succ])
      (refine held_skipA 18 (by rfl) (by kernel_rfl) (fun _ _ _ h => h) hs18r ?_; try simp only [Act.put, List.setIfInBounds_toArray, List.set_cons_zero, List.set_cons_succ])
      (refine held_skipA 19 (by rfl) (by kernel_rfl) (fun _ _ _ h => h) hs18r ?_; try simp only [Act.put, List.setIfInBounds_toArray, List.set_cons_zero, List.set_cons_succ])
      (refine held_takeA 20 (by rfl) ?_ (by kernel_rfl) (fun _ _ _ h => h) hs18r ?_ ?_; rotate_left; (focus (intro wq hSw; have hrd : ∀ b o, b < wr.heap.size → wq.cell? ⟨b, o, none⟩ = wr.cell? ⟨b, o, none⟩ := (fun b o h => hSw.cell (p := ⟨b, o, none⟩) h); go_simp; try with_reducible rfl; done)); try simp only [Act.put, List.setIfInBounds_toArray, List.set_cons_zero, List.set_cons_succ])
      refine wpAnyH_done (by kernel_rfl) ?_ _
      try refine NoPanic.normal ?_
      have hins := Lib.hid (ins_at (m := ⟨id, ad, wt⟩) (by rw [hln.out]; exact hk) hbelow.out hge.out)
      have hl1 : (L.take k).length = k := by rw [List.length_take, hln.out]; omega
      have hki : (k : Int) ≤ n := by omega
      go_upto_region 10 with (fail)
      have hqd : Blk wr.drew g 170 #[.slice A n c] := hqr
      have hpd : Blk wr.drew w.heap.size 82 #[.int .i64 id, .int .u32 ad, .int .i64 wt] := hpr
      have hS1d : Seen memK wr.drew (fun b => X b ∧ b < wr.drew.heap.size) A1 k (L.take k) := hS1
      have hS2d : Seen memK wr.drew (fun b => X b ∧ b < wr.drew.heap.size) A2 (n - k) (L.drop k) := hS2
      have hBd : Below w2.heap.size w2 wr.drew := hBr.drew
      clear c1r p0r ltgr ltpr hqr hpr hS1 hS2 hBr hSr hzr
      generalize wr.drew = wd at *
      have hzr := hBd.size
      have c1r : wd.cell? ⟨g, 0, none⟩ = some (.slice A n c) := hqd.cellv 0 rfl
      have p0r : wd.cell? ⟨w.heap.size, 0, none⟩ = some (.int .i64 id) := hpd.cellv 0 rfl
      have ltgr := hqd.lt
      have ltpr := hpd.lt
      -- region 10: 0 1M 2 3 4 5 6 7 8M 9 10 11M 12M 13 14 15 16 17 18 19M 20 21 22M
      try refine wp_region_noPanic ?_
      have hs19r : (fun w' => Below wd.heap.size wd w') wd.drew := (Below.refl _ _).drew
      refine wp_region_E 22 (S := fun w' => Below wd.heap.size wd w') (by kernel_rfl) hs19r (fun _ => ?_)
      (refine e_takeA 0 (by rfl) ?_ (by kernel_rfl) (fun _ _ _ h => h) hs19r ?_ ?_; rotate_left; (focus (intro wq hSw; have hrd := hSw; have hrd2 : ∀ b o, b < wd.heap.size → wq.cell? ⟨b, o, none⟩ = wd.cell? ⟨b, o, none⟩ := (fun b o h => Below.cell hSw (p := ⟨b, o, none⟩) h); go_simp; try with_reducible rfl; done)); try simp only [Act.put, List.setIfInBounds_toArray, List.set_cons_zero, List.set_cons_succ])
      (refine e_takeA 2 (by rfl) ?_ (by kernel_rfl) (fun _ _ _ h => h) hs19r ?_ ?_; rotate_left; (focus (intro wq hSw; have hrd := hSw; have hrd2 : ∀ b o, b < wd.heap.size → wq.cell? ⟨b, o, none⟩ = wd.cell? ⟨b, o, none⟩ := (fun b o h => Below.cell hSw (p := ⟨b, o, none⟩) h); go_simp; try with_reducible rfl; done)); try simp only [Act.put, List.setIfInBounds_toArray, List.set_cons_zero, List.set_cons_succ])
      (refine e_takeA 3 (by rfl) ?_ (by kernel_rfl) (fun _ _ _ h => h) hs19r ?_ ?_; rotate_left; (focus (intro wq hSw; have hrd := hSw; have hrd2 : ∀ b o, b < wd.heap.size → wq.cell? ⟨b, o, none⟩ = wd.cell? ⟨b, o, none⟩ := (fun b o h => Below.cell hSw (p := ⟨b, o, none⟩) h); go_simp; try with_reducible rfl; done)); try simp only [Act.put, List.setIfInBounds_toArray, List.set_cons_zero, List.set_cons_succ])
      (refine e_takeA 4 (by rfl) ?_ (by kernel_rfl) (fun _ _ _ h => h) hs19r ?_ ?_; rotate_left; (focus (intro wq hSw; have hrd := hSw; have hrd2 : ∀ b o, b < wd.heap.size → wq.cell? ⟨b, o, none⟩ = wd.cell? ⟨b, o, none⟩ := (fun b o h => Below.cell hSw (p := ⟨b, o, none⟩) h); go_simp; try with_reducible rfl; done)); try simp only [Act.put, List.setIfInBounds_toArray, List.set_cons_zero, List.set_cons_succ])
      (refine e_takeA 5 (by rfl) ?_ (by kernel_rfl) (fun _ _ _ h => h) hs19r ?_ ?_; rotate_left; (focus (intro wq hSw; have hrd := hSw; have hrd2 : ∀ b o, b < wd.heap.size → wq.cell? ⟨b, o, none⟩ = wd.cell? ⟨b, o, none⟩ := (fun b o h => Below.cell hSw (p := ⟨b, o, none⟩) h); go_simp; try with_reducible rfl; done)); try simp only [Act.put, List.setIfInBounds_toArray, List.set_cons_zero, List.set_cons_succ])
      (refine e_takeA 6 (by rfl) ?_ (by kernel_rfl) (fun _ _ _ h => h) hs19r ?_ ?_; rotate_left; (focus (intro wq hSw; have hrd := hSw; have hrd2 : ∀ b o, b < wd.heap.size → wq.cell? ⟨b, o, none⟩ = wd.cell? ⟨b, o, none⟩ := (fun b o h => Below.cell hSw (p := ⟨b, o, none⟩) h); go_simp; try with_reducible rfl; done)); try simp only [Act.put, List.setIfInBounds_toArray, List.set_cons_zero, List.set_cons_succ])
      (refine e_takeA 7 (by rfl) ?_ (by kernel_rfl) (fun _ _ _ h => h) hs19r ?_ ?_; rotate_left; (focus (intro wq hSw; have hrd := hSw; have hrd2 : ∀ b o, b < wd.heap.size → wq.cell? ⟨b, o, none⟩ = wd.cell? ⟨b, o, none⟩ := (fun b o h => Below.cell hSw (p := ⟨b, o, none⟩) h); go_simp; try with_reducible rfl; done)); try simp only [Act.put, List.setIfInBounds_toArray, List.set_cons_zero, List.set_cons_succ])
      (refine e_takeA 9 (by rfl) ?_ (by kernel_rfl) (fun _ _ _ h => h) hs19r ?_ ?_; rotate_left; (focus (intro wq hSw; refine exec_load_blk (x := .tmp 3) ?_ ?_ (hpd.below hSw hpd.lt) _ Tryz.underlying82 rfl (by kernel_rfl) <;> rfl)); simp only [Act.put, List.setIfInBounds_toArray, List.set_cons_zero, List.set_cons_succ])
      (refine e_takeA 10 (by rfl) ?_ (by kernel_rfl) (fun _ _ _ h => h) hs19r ?_ ?_; rotate_left; (focus (intro wq hSw; have hrd := hSw; have hrd2 : ∀ b o, b < wd.heap.size → wq.cell? ⟨b, o, none⟩ = wd.cell? ⟨b, o, none⟩ := (fun b o h => Below.cell hSw (p := ⟨b, o, none⟩) h); go_simp; try with_reducible rfl; done)); try simp only [Act.put, List.setIfInBounds_toArray, List.set_cons_zero, List.set_cons_succ])
      (refine e_takeA 13 (by rfl) ?_ (by kernel_rfl) (fun _ _ _ h => h) hs19r ?_ ?_; rotate_left; (focus (intro wq hSw; have hrd := hSw; have hrd2 : ∀ b o, b < wd.heap.size → wq.cell? ⟨b, o, none⟩ = wd.cell? ⟨b, o, none⟩ := (fun b o h => Below.cell hSw (p := ⟨b, o, none⟩) h); go_simp; try with_reducible rfl; done)); try simp only [Act.put, List.setIfInBounds_toArray, List.set_cons_zero, List.set_cons_succ])
      (refine e_takeA 14 (by rfl) ?_ (by kernel_rfl) (fun _ _ _ h => h) hs19r ?_ ?_; rotate_left; (focus (intro wq hSw; have hrd := hSw; have hrd2 : ∀ b o, b < wd.heap.size → wq.cell? ⟨b, o, none⟩ = wd.cell? ⟨b, o, none⟩ := (fun b o h => Below.cell hSw (p := ⟨b, o, none⟩) h); go_simp; try with_reducible rfl; done)); try simp only [Act.put, List.setIfInBounds_toArray, List.set_cons_zero, List.set_cons_succ])
      (refine e_takeA 15 (by rfl) ?_ (by kernel_rfl) (fun _ _ _ h => h) hs19r ?_ ?_; rotate_left; (focus (intro wq hSw; have hrd := hSw; have hrd2 : ∀ b o, b < wd.heap.size → wq.cell? ⟨b, o, none⟩ = wd.cell? ⟨b, o, none⟩ := (fun b o h => Below.cell hSw (p := ⟨b, o, none⟩) h); go_simp; try with_reducible rfl; done)); try simp only [Act.put, List.setIfInBounds_toArray, List.set_cons_zero, List.set_cons_succ])
      (refine e_takeA 16 (by rfl) ?_ (by kernel_rfl) (fun _ _ _ h => h) hs19r ?_ ?_; rotate_left; (focus (intro wq hSw; have hrd := hSw; have hrd2 : ∀ b o, b < wd.heap.size → wq.cell? ⟨b, o, none⟩ = wd.cell? ⟨b, o, none⟩ := (fun b o h => Below.cell hSw (p := ⟨b, o, none⟩) h); go_simp; try with_reducible rfl; done)); try simp only [Act.put, List.setIfInBounds_toArray, List.set_cons_zero, List.set_cons_succ])
      (refine e_takeA 17 (by rfl) ?_ (by kernel_rfl) (fun _ _ _ h => h) hs19r ?_ ?_; rotate_left; (focus (intro wq hSw; have hrd := hSw; have hrd2 : ∀ b o, b < wd.heap.size → wq.cell? ⟨b, o, none⟩ = wd.cell? ⟨b, o, none⟩ := (fun b o h => Below.cell hSw (p := ⟨b, o, none⟩) h); go_simp; try with_reducible rfl; done)); try simp only [Act.put, List.setIfInBounds_toArray, List.set_cons_zero, List.set_cons_succ])
      (refine e_takeA 18 (by rfl) ?_ (by kernel_rfl) (fun _ _ _ h => h) hs19r ?_ ?_; rotate_left; (focus (intro wq hSw; have hrd := hSw; have hrd2 : ∀ b o, b < wd.heap.size → wq.cell? ⟨b, o, none⟩ = wd.cell? ⟨b, o, none⟩ := (fun b o h => Below.cell hSw (p := ⟨b, o, none⟩) h); go_simp; try with_reducible rfl; done)); try simp only [Act.put, List.setIfInBounds_toArray, List.set_cons_zero, List.set_cons_succ])
      refine e_two 1 11 (by rfl) (by rfl) (by kernel_rfl) (by rfl) (by rfl) (fun KQ hKQ => ?_) (fun KQ hKQ => ?_)
      · skip
        have hbs : Below wd.heap.size wd wd.drew := (Below.refl _ _).drew
        go_simp
        have hd : (wd.alloc (.cells #[] 225)).drew = wd.drew.alloc (.cells #[] 225) := rfl
        try rw [hd]
        have hbs' := hbs.alloc hbs.size (.cells #[] 225)
        have hv : Rows memK (wd.drew.alloc (.cells #[] 225)) wd.heap.size wd.heap.size 225 (.slice (some ⟨wd.drew.heap.size, 0, none⟩) 0 0) [] := (rows_lit5 wd.drew).less hbs.size hbs.size
        skip
        skip
        skip
        generalize wd.drew.alloc (.cells #[] 225) = wa at *
        skip
        clear hd
        have hs20r := hbs'
        refine hKQ.out _ _ hs20r ?_
        clear hKQ KQ
        try simp only [Act.put, List.setIfInBounds_toArray, List.set_cons_zero, List.set_cons_succ]
        refine e_two 8 11 (by rfl) (by rfl) (by kernel_rfl) (by rfl) (by rfl) (fun KQ hKQ => ?_) (fun KQ hKQ => ?_)
        · skip
          have hSa := hS1d.below hbs' fun b q => q.2
          refine wp_rows memRow_ok (.tmp 67) (.tmp 73) (by rfl) hv (by rfl) (by rfl) hSa (fun _ _ => trivial) (by unfold maxLen; simp; omega) (by simp; omega) hbs'.size ?_
          intro vwb wb hvwb hgwb
          rw [List.nil_append] at hvwb
          have hbb := hv.below_app hgwb hbs'.size
          have hbs'' := hbs'.trans hbb
          have hv := hvwb
          have hs21r := hbs''
          refine hKQ.out _ _ hs21r ?_
          clear hKQ KQ
          try simp only [Act.put, List.setIfInBounds_toArray, List.set_cons_zero, List.set_cons_succ]
          refine e_callA 11 (by rfl) (by kernel_rfl) (by rfl) (fun KQ hKQ => ?_)
          go_simp
          have hbs''' := hbs''.alloc hbs''.size (.cells #[.int .i64 id, .int .u32 ad, .int .i64 wt, .int .i64 0, .int .i64 0] 225)
          obtain ⟨LB, hLB⟩ : ∃ LB, LB = wb.heap.size := ⟨_, rfl⟩
          have hseen : Seen memK (wb.alloc (.cells #[.int .i64 id, .int .u32 ad, .int .i64 wt, .int .i64 0, .int .i64 0] 225)) (fun b => b = LB) (some ⟨LB, 0, none⟩) 1 [(⟨id, ad, wt⟩ : SiteV)] := by
            rw [hLB]
            exact seen_one (R := memK) (S := fun _ => False) (S' := fun b => b = wb.heap.size) wb 225 (⟨id, ad, wt⟩ : SiteV) #[.int .i64 id, .int .u32 ad, .int .i64 wt, .int .i64 0, .int .i64 0] rfl trivial (fun _ h => h.elim) rfl (fun _ h => h.elim)
          have hlitlt : LB < (wb.alloc (.cells #[.int .i64 id, .int .u32 ad, .int .i64 wt, .int .i64 0, .int .i64 0] 225)).heap.size := by
            rw [hLB]
            show wb.heap.size < _
            simp
          have hapart := fun (e : _ = some LB) => (absurd (hv.own LB e).2 (by rw [hLB]; exact Nat.lt_irrefl _) : False)
          have hv := hv.alloc (.cells #[.int .i64 id, .int .u32 ad, .int .i64 wt, .int .i64 0, .int .i64 0] 225)
          generalize wb.alloc (.cells #[.int .i64 id, .int .u32 ad, .int .i64 wt, .int .i64 0, .int .i64 0] 225) = wc at *
          try rw [← hLB]
          clear hLB 
          have hs22r := hbs'''
          refine hKQ.out _ _ hs22r ?_
          clear hKQ KQ
          try simp only [Act.put, List.setIfInBounds_toArray, List.set_cons_zero, List.set_cons_succ]
          refine e_callA 12 (by rfl) (by kernel_rfl) (by rfl) (fun KQ hKQ => ?_)
          refine wp_rows memRow_ok (.tmp 74) (.tmp 77) (by rfl) hv (by rfl) (by rfl) hseen (fun _ _ => trivial) (by unfold maxLen; omega) (by omega) hbs'''.size ?_
          intro v8 w8 hv8 hg8
          have hb8 := hbs'''.trans (hv.below_app hg8 hbs'''.size)
          have hs23r := hb8
          refine hKQ.out _ _ hs23r ?_
          clear hKQ KQ
          try simp only [Act.put, List.setIfInBounds_toArray, List.set_cons_zero, List.set_cons_succ]
          have hSb := hS2d.below hb8 fun b q => q.2
          refine e_callA 19 (by rfl) (by kernel_rfl) (by rfl) (fun KQ hKQ => ?_)
          refine wp_rows memRow_ok (.tmp 78) (.tmp 84) (by rfl) hv8 (by rfl) (by rfl) hSb (fun _ _ => trivial) (by unfold maxLen; simp; omega) (by simp; omega) hb8.size ?_
          intro v9 w9 hv9 hg9
          rw [List.append_assoc, List.singleton_append, hins.out] at hv9
          have hb9 := hb8.trans (hv8.below_app hg9 hb8.size)
          have hlen9 : (insM L ⟨id, ad, wt⟩).length = n + 1 := by rw [← hins.out]; simp [hl1, hln.out]; omega
          obtain ⟨A9, c9, e9, hc9, hcm9, hS9⟩ := hv9.seen (Nat.le_refl _)
          rw [hlen9] at e9 hc9 hS9
          subst e9
          have hq9 := hqd.below hb9 ltgr
          have g9 := hq9.frozen 0
          have hz9 := hb9.size
          have ltg9 : g < w9.heap.size := hq9.lt
          have c9' : w9.cell? ⟨g, 0, none⟩ = some (.slice A n c) := hq9.cellv 0 rfl
          have hs24r := hb9
          refine hKQ.out _ _ hs24r ?_
          clear hKQ KQ
          try simp only [Act.put, List.setIfInBounds_toArray, List.set_cons_zero, List.set_cons_succ]
          (refine e_takeA 20 (by rfl) ?_ (by kernel_rfl) (fun _ _ _ h => h) hs24r ?_ ?_; rotate_left; (focus (intro wq hSw; have hrd := hSw; have hrd2 : ∀ b o, b < wd.heap.size → wq.cell? ⟨b, o, none⟩ = wd.cell? ⟨b, o, none⟩ := (fun b o h => Below.cell hSw (p := ⟨b, o, none⟩) h); go_simp; try with_reducible rfl; done)); try simp only [Act.put, List.setIfInBounds_toArray, List.set_cons_zero, List.set_cons_succ])
          (refine e_takeA 21 (by rfl) ?_ (by kernel_rfl) (fun _ _ _ h => h) hs24r ?_ ?_; rotate_left; (focus (intro wq hSw; have hrd := hSw; have hrd2 : ∀ b o, b < wd.heap.size → wq.cell? ⟨b, o, none⟩ = wd.cell? ⟨b, o, none⟩ := (fun b o h => Below.cell hSw (p := ⟨b, o, none⟩) h); go_simp; try with_reducible rfl; done)); try simp only [Act.put, List.setIfInBounds_toArray, List.set_cons_zero, List.set_cons_succ])
          refine e_last (by rfl) (by kernel_rfl) (by rfl) (fun KQ hKQ => ?_)
          go_simp
          obtain ⟨hq6, hg6⟩ := blk_store hq9 0 (.slice A9 (n + 1) c9)
          replace hq6 : Blk (w9.setCell ⟨g, 0, none⟩ (.slice A9 (n + 1) c9)) g 170 #[.slice A9 (n + 1) c9] := hq6
          have hS6 := hS9.grown hg6 fun b q => ⟨q.2, fun e => by injection e with e; omega⟩
          generalize w9.setCell ⟨g, 0, none⟩ (.slice A9 (n + 1) c9) = w6 at *
          refine hKQ.out _ _ ?_
          clear hKQ KQ
          try simp only [Act.put]
          refine e_done (by kernel_rfl) ?_ _
          try refine NoPanic.normal ?_
          go_wp2_with fail
          go_ret
          rw [e.out]
          refine ⟨rfl, ⟨A9, _, c9, hc9, hcm9, hq6, hS6.more fun b q => ⟨hX b (Nat.le_trans (Nat.le_trans hB.size hzr) q.1), Nat.lt_of_lt_of_le q.2 hg6.size⟩⟩, ?_⟩
          exact grown_trans (grown_of_below (hB.trans (hBd.mono hB.size)) (Nat.le_refl _) _) (grown_trans (grown_of_below hb9 (Nat.le_refl _) _) hg6)
        · skip
          go_simp
          have hbs'' := hbs'.alloc hbs'.size (.cells #[.int .i64 id, .int .u32 ad, .int .i64 wt, .int .i64 0, .int .i64 0] 225)
          obtain ⟨LB, hLB⟩ : ∃ LB, LB = wa.heap.size := ⟨_, rfl⟩
          have hseen : Seen memK (wa.alloc (.cells #[.int .i64 id, .int .u32 ad, .int .i64 wt, .int .i64 0, .int .i64 0] 225)) (fun b => b = LB) (some ⟨LB, 0, none⟩) 1 [(⟨id, ad, wt⟩ : SiteV)] := by
            rw [hLB]
            exact seen_one (R := memK) (S := fun _ => False) (S' := fun b => b = wa.heap.size) wa 225 (⟨id, ad, wt⟩ : SiteV) #[.int .i64 id, .int .u32 ad, .int .i64 wt, .int .i64 0, .int .i64 0] rfl trivial (fun _ h => h.elim) rfl (fun _ h => h.elim)
          have hlitlt : LB < (wa.alloc (.cells #[.int .i64 id, .int .u32 ad, .int .i64 wt, .int .i64 0, .int .i64 0] 225)).heap.size := by
            rw [hLB]
            show wa.heap.size < _
            simp
          have hapart := fun (e : _ = some LB) => (absurd (hv.own LB e).2 (by rw [hLB]; exact Nat.lt_irrefl _) : False)
          have hv := hv.alloc (.cells #[.int .i64 id, .int .u32 ad, .int .i64 wt, .int .i64 0, .int .i64 0] 225)
          generalize wa.alloc (.cells #[.int .i64 id, .int .u32 ad, .int .i64 wt, .int .i64 0, .int .i64 0] 225) = wb at *
          try rw [← hLB]
          clear hLB 
          have hs25r := hbs''
          refine hKQ.out _ _ hs25r ?_
          clear hKQ KQ
          try simp only [Act.put, List.setIfInBounds_toArray, List.set_cons_zero, List.set_cons_succ]
          refine e_callA 8 (by rfl) (by kernel_rfl) (by rfl) (fun KQ hKQ => ?_)
          have hSa := hS1d.below hbs'' fun b q => q.2
          refine wp_rows memRow_ok (.tmp 67) (.tmp 73) (by rfl) hv (by rfl) (by rfl) hSa (fun _ _ => trivial) (by unfold maxLen; simp; omega) (by simp; omega) hbs''.size ?_
          intro vwc wc hvwc hgwc
          rw [List.nil_append] at hvwc
          have hbb := hv.below_app hgwc hbs''.size
          have hseen := hseen.grown hgwc (fun b q => ⟨by rw [q]; exact hlitlt, by rw [q]; intro e; exact hapart e⟩)
          have hlitlt := Nat.lt_of_lt_of_le hlitlt hbb.size
          have hbs''' := hbs''.trans hbb
          have hv := hvwc
          have hs26r := hbs'''
          refine hKQ.out _ _ hs26r ?_
          clear hKQ KQ
          try simp only [Act.put, List.setIfInBounds_toArray, List.set_cons_zero, List.set_cons_succ]
          refine e_callA 12 (by rfl) (by kernel_rfl) (by rfl) (fun KQ hKQ => ?_)
          refine wp_rows memRow_ok (.tmp 74) (.tmp 77) (by rfl) hv (by rfl) (by rfl) hseen (fun _ _ => trivial) (by unfold maxLen; omega) (by omega) hbs'''.size ?_
          intro v8 w8 hv8 hg8
          have hb8 := hbs'''.trans (hv.below_app hg8 hbs'''.size)
          have hs27r := hb8
          refine hKQ.out _ _ hs27r ?_
          clear hKQ KQ
          try simp only [Act.put, List.setIfInBounds_toArray, List.set_cons_zero, List.set_cons_succ]
          have hSb := hS2d.below hb8 fun b q => q.2
          refine e_callA 19 (by rfl) (by kernel_rfl) (by rfl) (fun KQ hKQ => ?_)
          refine wp_rows memRow_ok (.tmp 78) (.tmp 84) (by rfl) hv8 (by rfl) (by rfl) hSb (fun _ _ => trivial) (by unfold maxLen; simp; omega) (by simp; omega) hb8.size ?_
          intro v9 w9 hv9 hg9
          rw [List.append_assoc, List.singleton_append, hins.out] at hv9
          have hb9 := hb8.trans (hv8.below_app hg9 hb8.size)
          have hlen9 : (insM L ⟨id, ad, wt⟩).length = n + 1 := by rw [← hins.out]; simp [hl1, hln.out]; omega
          obtain ⟨A9, c9, e9, hc9, hcm9, hS9⟩ := hv9.seen (Nat.le_refl _)
          rw [hlen9] at e9 hc9 hS9
          subst e9
          have hq9 := hqd.below hb9 ltgr
          have g9 := hq9.frozen 0
          have hz9 := hb9.size
          have ltg9 : g < w9.heap.size := hq9.lt
          have c9' : w9.cell? ⟨g, 0, none⟩ = some (.slice A n c) := hq9.cellv 0 rfl
          have hs28r := hb9
          refine hKQ.out _ _ hs28r ?_
          clear hKQ KQ
          try simp only [Act.put, List.setIfInBounds_toArray, List.set_cons_zero, List.set_cons_succ]
          (refine e_takeA 20 (by rfl) ?_ (by kernel_rfl) (fun _ _ _ h => h) hs28r ?_ ?_; rotate_left; (focus (intro wq hSw; have hrd := hSw; have hrd2 : ∀ b o, b < wd.heap.size → wq.cell? ⟨b, o, none⟩ = wd.cell? ⟨b, o, none⟩ := (fun b o h => Below.cell hSw (p := ⟨b, o, none⟩) h); go_simp; try with_reducible rfl; done)); try simp only [Act.put, List.setIfInBounds_toArray, List.set_cons_zero, List.set_cons_succ])
          (refine e_takeA 21 (by rfl) ?_ (by kernel_rfl) (fun _ _ _ h => h) hs28r ?_ ?_; rotate_left; (focus (intro wq hSw; have hrd := hSw; have hrd2 : ∀ b o, b < wd.heap.size → wq.cell? ⟨b, o, none⟩ = wd.cell? ⟨b, o, none⟩ := (fun b o h => Below.cell hSw (p := ⟨b, o, none⟩) h); go_simp; try with_reducible rfl; done)); try simp only [Act.put, List.setIfInBounds_toArray, List.set_cons_zero, List.set_cons_succ])
          refine e_last (by rfl) (by kernel_rfl) (by rfl) (fun KQ hKQ => ?_)
          go_simp
          obtain ⟨hq6, hg6⟩ := blk_store hq9 0 (.slice A9 (n + 1) c9)
          replace hq6 : Blk (w9.setCell ⟨g, 0, none⟩ (.slice A9 (n + 1) c9)) g 170 #[.slice A9 (n + 1) c9] := hq6
          have hS6 := hS9.grown hg6 fun b q => ⟨q.2, fun e => by injection e with e; omega⟩
          generalize w9.setCell ⟨g, 0, none⟩ (.slice A9 (n + 1) c9) = w6 at *
          refine hKQ.out _ _ ?_
          clear hKQ KQ
          try simp only [Act.put]
          refine e_done (by kernel_rfl) ?_ _
          try refine NoPanic.normal ?_
          go_wp2_with fail
          go_ret
          rw [e.out]
          refine ⟨rfl, ⟨A9, _, c9, hc9, hcm9, hq6, hS6.more fun b q => ⟨hX b (Nat.le_trans (Nat.le_trans hB.size hzr) q.1), Nat.lt_of_lt_of_le q.2 hg6.size⟩⟩, ?_⟩
          exact grown_trans (grown_of_below (hB.trans (hBd.mono hB.size)) (Nat.le_refl _) _) (grown_trans (grown_of_below hb9 (Nat.le_refl _) _) hg6)
      · skip
        have hbs : Below wd.heap.size wd wd.drew := (Below.refl _ _).drew
        go_simp
        have hd : (wd.alloc (.cells #[.int .i64 id, .int .u32 ad, .int .i64 wt, .int .i64 0, .int .i64 0] 225)).drew = wd.drew.alloc (.cells #[.int .i64 id, .int .u32 ad, .int .i64 wt, .int .i64 0, .int .i64 0] 225) := rfl
        try rw [hd]
        have hbs' := hbs.alloc hbs.size (.cells #[.int .i64 id, .int .u32 ad, .int .i64 wt, .int .i64 0, .int .i64 0] 225)
        obtain ⟨LB, hLB⟩ : ∃ LB, LB = wd.heap.size := ⟨_, rfl⟩
        have hseen : Seen memK (wd.drew.alloc (.cells #[.int .i64 id, .int .u32 ad, .int .i64 wt, .int .i64 0, .int .i64 0] 225)) (fun b => b = LB) (some ⟨LB, 0, none⟩) 1 [(⟨id, ad, wt⟩ : SiteV)] := by
          rw [hLB]
          exact seen_one (R := memK) (S := fun _ => False) (S' := fun b => b = wd.heap.size) wd.drew 225 (⟨id, ad, wt⟩ : SiteV) #[.int .i64 id, .int .u32 ad, .int .i64 wt, .int .i64 0, .int .i64 0] rfl trivial (fun _ h => h.elim) rfl (fun _ h => h.elim)
        have hlitlt : LB < (wd.drew.alloc (.cells #[.int .i64 id, .int .u32 ad, .int .i64 wt, .int .i64 0, .int .i64 0] 225)).heap.size := by
          rw [hLB]
          show wd.drew.heap.size < _
          simp
        skip
        skip
        generalize wd.drew.alloc (.cells #[.int .i64 id, .int .u32 ad, .int .i64 wt, .int .i64 0, .int .i64 0] 225) = wa at *
        try rw [← hLB]
        clear hLB hd
        have hs29r := hbs'
        refine hKQ.out _ _ hs29r ?_
        clear hKQ KQ
        try simp only [Act.put, List.setIfInBounds_toArray, List.set_cons_zero, List.set_cons_succ]
        refine e_callA 1 (by rfl) (by kernel_rfl) (by rfl) (fun KQ hKQ => ?_)
        go_simp
        have hbs'' := hbs'.alloc hbs'.size (.cells #[] 225)
        have hv : Rows memK (wa.alloc (.cells #[] 225)) wd.heap.size wd.heap.size 225 (.slice (some ⟨wa.heap.size, 0, none⟩) 0 0) [] := (rows_lit5 wa).less hbs'.size hbs'.size
        have hseen := hseen.below (w' := wa.alloc (.cells #[] 225)) ((Below.refl _ _).alloc (Nat.le_refl _) _) (fun b q => by rw [q]; exact hlitlt)
        have hlitlt2 : LB < (wa.alloc (.cells #[] 225)).heap.size := Nat.lt_of_lt_of_le hlitlt (by simp)
        have hapart : (Value.slice (some ⟨wa.heap.size, 0, none⟩) 0 0).ownBlock = some LB → False := fun e => by (have e2 : some wa.heap.size = some LB := e); injection e2 with e2; omega
        generalize wa.alloc (.cells #[] 225) = wb at *
        replace hlitlt := hlitlt2
        skip
        have hs30r := hbs''
        refine hKQ.out _ _ hs30r ?_
        clear hKQ KQ
        try simp only [Act.put, List.setIfInBounds_toArray, List.set_cons_zero, List.set_cons_succ]
        refine e_callA 8 (by rfl) (by kernel_rfl) (by rfl) (fun KQ hKQ => ?_)
        have hSa := hS1d.below hbs'' fun b q => q.2
        refine wp_rows memRow_ok (.tmp 67) (.tmp 73) (by rfl) hv (by rfl) (by rfl) hSa (fun _ _ => trivial) (by unfold maxLen; simp; omega) (by simp; omega) hbs''.size ?_
        intro vwc wc hvwc hgwc
        rw [List.nil_append] at hvwc
        have hbb := hv.below_app hgwc hbs''.size
        have hseen := hseen.grown hgwc (fun b q => ⟨by rw [q]; exact hlitlt, by rw [q]; intro e; exact hapart e⟩)
        have hlitlt := Nat.lt_of_lt_of_le hlitlt hbb.size
        have hbs''' := hbs''.trans hbb
        have hv := hvwc
        have hs31r := hbs'''
        refine hKQ.out _ _ hs31r ?_
        clear hKQ KQ
        try simp only [Act.put, List.setIfInBounds_toArray, List.set_cons_zero, List.set_cons_succ]
        refine e_callA 12 (by rfl) (by kernel_rfl) (by rfl) (fun KQ hKQ => ?_)
        refine wp_rows memRow_ok (.tmp 74) (.tmp 77) (by rfl) hv (by rfl) (by rfl) hseen (fun _ _ => trivial) (by unfold maxLen; omega) (by omega) hbs'''.size ?_
        intro v8 w8 hv8 hg8
        have hb8 := hbs'''.trans (hv.below_app hg8 hbs'''.size)
        have hs32r := hb8
        refine hKQ.out _ _ hs32r ?_
        clear hKQ KQ
        try simp only [Act.put, List.setIfInBounds_toArray, List.set_cons_zero, List.set_cons_succ]
        have hSb := hS2d.below hb8 fun b q => q.2
        refine e_callA 19 (by rfl) (by kernel_rfl) (by rfl) (fun KQ hKQ => ?_)
        refine wp_rows memRow_ok (.tmp 78) (.tmp 84) (by rfl) hv8 (by rfl) (by rfl) hSb (fun _ _ => trivial) (by unfold maxLen; simp; omega) (by simp; omega) hb8.size ?_
        intro v9 w9 hv9 hg9
        rw [List.append_assoc, List.singleton_append, hins.out] at hv9
        have hb9 := hb8.trans (hv8.below_app hg9 hb8.size)
        have hlen9 : (insM L ⟨id, ad, wt⟩).length = n + 1 := by rw [← hins.out]; simp [hl1, hln.out]; omega
        obtain ⟨A9, c9, e9, hc9, hcm9, hS9⟩ := hv9.seen (Nat.le_refl _)
        rw [hlen9] at e9 hc9 hS9
        subst e9
        have hq9 := hqd.below hb9 ltgr
        have g9 := hq9.frozen 0
        have hz9 := hb9.size
        have ltg9 : g < w9.heap.size := hq9.lt
        have c9' : w9.cell? ⟨g, 0, none⟩ = some (.slice A n c) := hq9.cellv 0 rfl
        have hs33r := hb9
        refine hKQ.out _ _ hs33r ?_
        clear hKQ KQ
        try simp only [Act.put, List.setIfInBounds_toArray, List.set_cons_zero, List.set_cons_succ]
        (refine e_takeA 20 (by rfl) ?_ (by kernel_rfl) (fun _ _ _ h => h) hs33r ?_ ?_; rotate_left; (focus (intro wq hSw; have hrd := hSw; have hrd2 : ∀ b o, b < wd.heap.size → wq.cell? ⟨b, o, none⟩ = wd.cell? ⟨b, o, none⟩ := (fun b o h => Below.cell hSw (p := ⟨b, o, none⟩) h); go_simp; try with_reducible rfl; done)); try simp only [Act.put, List.setIfInBounds_toArray, List.set_cons_zero, List.set_cons_succ])
        (refine e_takeA 21 (by rfl) ?_ (by kernel_rfl) (fun _ _ _ h => h) hs33r ?_ ?_; rotate_left; (focus (intro wq hSw; have hrd := hSw; have hrd2 : ∀ b o, b < wd.heap.size → wq.cell? ⟨b, o, none⟩ = wd.cell? ⟨b, o, none⟩ := (fun b o h => Below.cell hSw (p := ⟨b, o, none⟩) h); go_simp; try with_reducible rfl; done)); try simp only [Act.put, List.setIfInBounds_toArray, List.set_cons_zero, List.set_cons_succ])
        refine e_last (by rfl) (by kernel_rfl) (by rfl) (fun KQ hKQ => ?_)
        go_simp
        obtain ⟨hq6, hg6⟩ := blk_store hq9 0 (.slice A9 (n + 1) c9)
        replace hq6 : Blk (w9.setCell ⟨g, 0, none⟩ (.slice A9 (n + 1) c9)) g 170 #[.slice A9 (n + 1) c9] := hq6
        have hS6 := hS9.grown hg6 fun b q => ⟨q.2, fun e => by injection e with e; omega⟩
        generalize w9.setCell ⟨g, 0, none⟩ (.slice A9 (n + 1) c9) = w6 at *
        refine hKQ.out _ _ ?_
        clear hKQ KQ
        try simp only [Act.put]
        refine e_done (by kernel_rfl) ?_ _
        try refine NoPanic.normal ?_
        go_wp2_with fail
        go_ret
        rw [e.out]
        refine ⟨rfl, ⟨A9, _, c9, hc9, hcm9, hq6, hS6.more fun b q => ⟨hX b (Nat.le_trans (Nat.le_trans hB.size hzr) q.1), Nat.lt_of_lt_of_le q.2 hg6.size⟩⟩, ?_⟩
        exact grown_trans (grown_of_below (hB.trans (hBd.mono hB.size)) (Nat.le_refl _) _) (grown_trans (grown_of_below hb9 (Nat.le_refl _) _) hg6)
end Go.Proofs.YtecmhakapomepaaGreat.sb
