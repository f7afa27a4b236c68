import Derived.Test.YtgdeecmhhbdjgaaGreatMVipActs8
import Derived.Test.YtgdeecmhhbdjgaaGreatMVipActs2
/- pool: Total, Healthy, Quorate; the document's example. -/
namespace Go.Proofs.YtgdeecmhhbdjgaaGreat
set_option linter.unusedVariables false
open Go Go.RowKit Go.Maps

theorem pTotal (w : World) (g b : Nat) (pc : Int) (M : List Mem) (h : PoolIn w g b pc M) (hM : MemsOk M) :
    Calls Tryz.prog 184 #[.pointer (some ⟨g, 0, none⟩)] w fun e w' => e = .returned (.int .i64 (sumW soAll M)) ∧ Below w.heap.size w w' := by
  go_enter Tryz.func184, Tryz.ntmps184
  go_wp2_with (refine (weight_all w g b pc M h hM).mono ?_; rintro e w2 ⟨rfl, hb⟩)
  go_ret
  exact ⟨rfl, hb⟩
theorem pHealthy (w : World) (g b : Nat) (pc : Int) (M : List Mem) (h : PoolIn w g b pc M) (hM : MemsOk M) :
    Calls Tryz.prog 131 #[.pointer (some ⟨g, 0, none⟩)] w fun e w' => e = .returned (.int .i64 (sumW soUp M)) ∧ Below w.heap.size w w' := by
  go_enter Tryz.func131, Tryz.ntmps131
  go_wp2_with (refine (weight_up w g b pc M h hM).mono ?_; rintro e w2 ⟨rfl, hb⟩)
  go_ret
  exact ⟨rfl, hb⟩
set_option maxRecDepth 100000 in
set_option maxHeartbeats 2000000 in
theorem pQuorate (w : World) (g b : Nat) (pc : Int) (M : List Mem) (h : PoolIn w g b pc M) (hM : MemsOk M) :
    Calls Tryz.prog 97 #[.pointer (some ⟨g, 0, none⟩)] w fun e w' => e = .returned (.bool (quoB (sumW soUp M) (sumW soAll M) pc)) ∧ Below w.heap.size w w' := by
  have c0 : w.cell? ⟨g, 0, none⟩ = some (.int .i64 pc) := h.1.cellv 0 rfl
  have ltg := h.ltg
  go_enter Tryz.func97, Tryz.ntmps97
  go_upto_region 1 with (fail)
  try refine wp_region_noPanic ?_
  refine wp_region_lat (by kernel_rfl) ?_
  (refine lat_now 0 (by rfl) ?_ (by kernel_rfl) (fun _ _ _ h => h) ?_ ?_; rotate_left; (focus (intro wq hSw; have hrd := zR hSw; go_simp; try with_reducible rfl; done)); try simp only [Act.put, zA, zB, zC])
  (refine lat_late 1 (by rfl) (.bool true) (by kernel_rfl) (fun _ _ _ h => h) (fun wq hSw => ⟨_, _, ?_, ((made_in (h.nx hSw)).mono fun _ _ q => ⟨q.1, q.2 ▸ Below.refl _ _⟩)⟩) ?_; focus (go_simp; try with_reducible rfl; done); try simp only [Act.put, zA, zB, zC])
  (refine lat_now 2 (by rfl) ?_ (by kernel_rfl) (fun _ _ _ h => h) ?_ ?_; rotate_left; (focus (intro wq hSw; have hrd := zR hSw; go_simp; try with_reducible rfl; done)); try simp only [Act.put, zA, zB, zC])
  (refine lat_now 3 (by rfl) ?_ (by kernel_rfl) (fun _ _ _ h => h) ?_ ?_; rotate_left; (focus (intro wq hSw; have hrd := zR hSw; go_simp; try with_reducible rfl; done)); try simp only [Act.put, zA, zB, zC])
  (refine lat_now 5 (by rfl) ?_ (by kernel_rfl) (fun _ _ _ h => h) ?_ ?_; rotate_left; (focus (intro wq hSw; have hrd := zR hSw; go_simp; try with_reducible rfl; done)); try simp only [Act.put, zA, zB, zC])
  (refine lat_now 7 (by rfl) ?_ (by kernel_rfl) (fun _ _ _ h => h) ?_ ?_; rotate_left; (focus (intro wq hSw; have hrd := zR hSw; go_simp; try with_reducible rfl; done)); try simp only [Act.put, zA, zB, zC])
  (refine lat_now 8 (by rfl) ?_ (by kernel_rfl) (fun _ _ _ h => h) ?_ ?_; rotate_left; (focus (intro wq hSw; have hrd := zR hSw; go_simp; try with_reducible rfl; done)); try simp only [Act.put, zA, zB, zC])
  (refine lat_now 9 (by rfl) ?_ (by kernel_rfl) (fun _ _ _ h => h) ?_ ?_; rotate_left; (focus (intro wq hSw; have hrd := zR hSw; go_simp; try with_reducible rfl; done)); try simp only [Act.put, zA, zB, zC])
  (refine lat_now 10 (by rfl) ?_ (by kernel_rfl) (fun _ _ _ h => h) ?_ ?_; rotate_left; (focus (intro wq hSw; have hrd := zR hSw; go_simp; try with_reducible rfl; done)); try simp only [Act.put, zA, zB, zC])
  (refine lat_late 4 (by rfl) (.int .i64 (sumW soUp M)) (by kernel_rfl) (fun _ _ _ h => h) (fun wq hSw => ⟨_, _, ?_, (pHealthy wq g b pc M (h.nx hSw) hM)⟩) ?_; focus (go_simp; try with_reducible rfl; done); try simp only [Act.put, zA, zB, zC])
  (refine lat_late 6 (by rfl) (.int .i64 (sumW soAll M)) (by kernel_rfl) (fun _ _ _ h => h) (fun wq hSw => ⟨_, _, ?_, (pTotal wq g b pc M (h.nx hSw) hM)⟩) ?_; focus (go_simp; try with_reducible rfl; done); try simp only [Act.put, zA, zB, zC])
  (refine lat_late 11 (by rfl) (.bool (quoB (sumW soUp M) (sumW soAll M) pc)) (by kernel_rfl) (fun _ _ _ h => h) (fun wq hSw => ⟨_, _, ?_, ((quorum_any wq _ _ _).mono fun _ _ q => ⟨q.1, q.2 ▸ Below.refl _ _⟩)⟩) ?_; focus (go_simp; try with_reducible rfl; done); try simp only [Act.put, zA, zB, zC])
  (refine lat_now 12 (by rfl) ?_ (by kernel_rfl) (fun _ _ _ h => h) ?_ ?_; rotate_left; (focus (intro wq hSw; have hrd := zR hSw; go_simp; try with_reducible rfl; done)); try simp only [Act.put, zA, zB, zC])
  (refine lat_now 13 (by rfl) ?_ (by kernel_rfl) (fun _ _ _ h => h) ?_ ?_; rotate_left; (focus (intro wq hSw; have hrd := zR hSw; go_simp; try with_reducible rfl; done)); try simp only [Act.put, zA, zB, zC])
  refine lat_done (by kernel_rfl) (fun wz hz => ?_) _
  try refine NoPanic.normal ?_
  go_wp2_with fail
  go_ret
  exact ⟨rfl, hz⟩
end Go.Proofs.YtgdeecmhhbdjgaaGreat

/- pool: the document's example; PoolQuorum. -/
namespace Go.Proofs.YtgdeecmhhbdjgaaGreat
set_option linter.unusedVariables false
open Go Go.RowKit Go.Maps

end Go.Proofs.YtgdeecmhhbdjgaaGreat

/- pool: Get, Up, Draining; a pool that no call made. -/
namespace Go.Proofs.YtgdeecmhhbdjgaaGreat
set_option linter.unusedVariables false
open Go Go.RowKit Go.Maps

end Go.Proofs.YtgdeecmhhbdjgaaGreat

/- pool: the document's pool as it lies in memory; its look-ups and sums. -/
namespace Go.Proofs.YtgdeecmhhbdjgaaGreat
set_option linter.unusedVariables false
open Go Go.RowKit Go.Maps

def memK : RK Mem where
  size := 5
  cel m := [.int .i64 m.id, .int .u32 m.ad, .int .i64 m.wt, .bool m.up, .bool m.dr]
  ok _ _ _ := True
  pos := by omega
  len _ := rfl
  one _ u hu := by simp at hu; rcases hu with rfl | rfl | rfl | rfl | rfl <;> rfl
  keep _ _ := trivial
  more _ _ := trivial
theorem memRow_ok : ElemOk Tryz.prog 236 240 memK.size 32 (.agg #[.int .i64 0, .int .u32 0, .int .i64 0, .bool false, .bool false]) := ⟨Tryz.underlying236, by kernel_rfl, rfl, memK.pos⟩
theorem mem_cells {w : World} {S : Nat → Prop} {A : Option Addr} {n : Nat} {L : List Mem} {k : Nat} (h : Seen memK w S A n L) (hk : k < n) :
    ∃ b off m, A = some ⟨b, off, none⟩ ∧ S b ∧ L[k]? = some m ∧ w.cell? ⟨b, off + k * 5, none⟩ = some (.int .i64 m.id) ∧ w.cell? ⟨b, off + k * 5 + 1, none⟩ = some (.int .u32 m.ad) ∧ w.cell? ⟨b, off + k * 5 + 2, none⟩ = some (.int .i64 m.wt) ∧
      w.cell? ⟨b, off + k * 5 + 3, none⟩ = some (.bool m.up) ∧ w.cell? ⟨b, off + k * 5 + 4, none⟩ = some (.bool m.dr) := by
  have hlt : k < L.length := by rw [h.1]; exact hk
  have hr := List.getElem?_eq_getElem hlt
  obtain ⟨b, off, e, hb, hc⟩ := h.cell hr
  exact ⟨b, off, _, e, hb, hr, hc 0 (by decide), hc 1 (by decide), hc 2 (by decide), hc 3 (by decide), hc 4 (by decide)⟩
def RefIn (w : World) (X : Nat → Prop) (g : Nat) (pc : Int) (L : List Mem) : Prop :=
  ∃ A n c, n ≤ c ∧ c ≤ maxLen ∧ Blk w g 238 #[.int .i64 pc, .slice A n c] ∧ Seen memK w (fun b => X b ∧ b < w.heap.size) A n L
section
variable {w w' : World} {X : Nat → Prop} {g : Nat} {pc : Int} {L : List Mem}
theorem RefIn.lt (h : RefIn w X g pc L) : g < w.heap.size := by obtain ⟨A, n, c, _, _, h1, _⟩ := h; exact h1.lt
theorem RefIn.nx (h : RefIn w X g pc L) (hb : Below w.heap.size w w') : RefIn w' X g pc L := by
  obtain ⟨A, n, c, k1, k2, h1, h2⟩ := h
  exact ⟨A, n, c, k1, k2, h1.below hb h1.lt, (h2.below hb fun b q => q.2).more fun b q => ⟨q.1, Nat.lt_of_lt_of_le q.2 hb.size⟩⟩
theorem RefIn.grown {k : Nat} (h : RefIn w X g pc L) (hg : w.grownBy w' (some k)) (h1 : g ≠ k) (h2 : ∀ b, X b → b ≠ k) : RefIn w' X g pc L := by
  obtain ⟨A, n, c, k1, k2, q1, q2⟩ := h
  exact ⟨A, n, c, k1, k2, q1.grown hg (fun e => h1 (by injection e)), (q2.grown hg fun b q => ⟨q.2, fun e => h2 b q.1 (by injection e with e; exact e.symm)⟩).more fun b q => ⟨q.1, Nat.lt_of_lt_of_le q.2 hg.size⟩⟩
end
def findF : List Mem → Int → Option Nat
  | [], _ => none
  | m :: L, id => if m.id = id then some 0 else (findF L id).map (· + 1)
theorem findF_some {L : List Mem} {id : Int} {k : Nat} {m : Mem} (hk : L[k]? = some m) (he : m.id = id) (hn : ∀ j m', j < k → L[j]? = some m' → m'.id ≠ id) : findF L id = some k := by
  induction L generalizing k with
  | nil => simp at hk
  | cons a L ih =>
    cases k with
    | zero =>
      simp at hk; subst hk
      unfold findF; rw [if_pos he]
    | succ k =>
      have h0 := hn 0 a (by omega) rfl
      unfold findF
      rw [if_neg h0, ih (by simpa using hk) fun j m' hj hm => hn (j + 1) m' (by omega) (by simpa using hm)]
      rfl
theorem findF_none {L : List Mem} {id : Int} (hn : ∀ m ∈ L, m.id ≠ id) : findF L id = none := by
  induction L with
  | nil => rfl
  | cons a L ih =>
    unfold findF
    rw [if_neg (hn a List.mem_cons_self), ih fun m hm => hn m (List.mem_cons_of_mem _ hm)]
    rfl
def findZ (L : List Mem) (id : Int) : Int := match findF L id with
  | some k => (k : Int)
  | none => -1
set_option maxRecDepth 100000 in
set_option maxHeartbeats 2000000 in
theorem refFind25 (w : World) (X : Nat → Prop) (g : Nat) (pc : Int) (L : List Mem) (id : Int) (h : RefIn w X g pc L) (hn : L.length ≤ 100000) :
    Calls Tryz.prog 191 #[.pointer (some ⟨g, 0, none⟩), .int .i64 id] w fun e w' => e = .returned (.int .i64 (findZ L id)) ∧ Below w.heap.size w w' := by
  obtain ⟨A, n, c, hnc, hcm, hq, hS⟩ := h
  have hl := Lib.hid hS.1
  replace hn : n ≤ 100000 := by have := hS.1; omega
  have c1 : w.cell? ⟨g, 1, none⟩ = some (.slice A n c) := hq.cellv 1 rfl
  have ltg := hq.lt
  go_enter Tryz.func191, Tryz.ntmps191
  go_wp2_with fail
  go_loopw [5, 6, 12] (fun _ _ i wr => ∃ k : Nat, k ≤ n ∧ i = .int .i64 (k : Int) ∧ (∀ j m', j < k → L[j]? = some m' → m'.id ≠ id) ∧ Below w.heap.size w wr) (fun _ _ i _ => n - (intOf i).toNat)
  case atStart => exact ⟨0, Nat.zero_le _, rfl, fun j m' hj => absurd hj (by omega), Below.refl _ _⟩
  case round =>
  obtain ⟨k, hk, rfl, hno, hB⟩ := hrel
  have hz := hB.size
  replace hno := Lib.hid hno
  by_cases hlt : k < n
  · obtain ⟨b, off, m, rfl, hb, hr, q0, q1, q2, q3, q4⟩ := mem_cells (hS.below hB fun _ q => q.2) hlt
    have hb2 : b < wr.heap.size := Nat.lt_of_lt_of_le hb.2 hz
    have hki : (k : Int) < n := by omega
    have hB2 := hB.alloc hz (.cells #[.int .i64 m.id, .int .u32 m.ad, .int .i64 m.wt, .bool m.up, .bool m.dr] 240)
    have hq := Blk.new wr 240 #[.int .i64 m.id, .int .u32 m.ad, .int .i64 m.wt, .bool m.up, .bool m.dr]
    go_upto_region 4 with (fail)
    generalize wr.alloc (.cells #[.int .i64 m.id, .int .u32 m.ad, .int .i64 m.wt, .bool m.up, .bool m.dr] 240) = w2 at *
    have r0 : w2.cell? ⟨wr.heap.size, 0, none⟩ = some (.int .i64 m.id) := hq.cellv 0 rfl
    by_cases he : m.id = id
    · have hf := findF_some hr he hno.out
      have hz2 : findZ L id = (k : Int) := by unfold findZ; rw [hf]
      have d1 : (m.id == id) = true := by simpa using he
      replace he := Lib.hid he
      replace hz2 := Lib.hid hz2
      go_wp2_with fail
      go_ret
      exact ⟨by rw [hz2.out]; rfl, hB2⟩
    · have d1 : (m.id == id) = false := by simpa using he
      have hno2 : ∀ j m', j < k + 1 → L[j]? = some m' → m'.id ≠ id := by
        intro j m' hj hm
        by_cases hjk : j < k
        · exact hno.out j m' hjk hm
        · obtain rfl : j = k := by omega
          rw [hr] at hm; injection hm with hm; subst hm
          exact he
      replace he := Lib.hid he
      replace hno2 := Lib.hid hno2
      go_wp2_with fail
      exact ⟨⟨k + 1, by omega, by go_num, hno2.out, hB2⟩, by simp [intOf]; omega⟩
  · obtain rfl : k = n := by omega
    have hf : findZ L id = -1 := by
      unfold findZ
      rw [findF_none fun m hm => by
        obtain ⟨j, hj, e⟩ := List.getElem_of_mem hm
        exact hno.out j m (by have := hl.out; omega) (by rw [List.getElem?_eq_getElem hj, e])]
    replace hf := Lib.hid hf
    go_wp2_with fail
    go_ret
    exact ⟨by rw [hf.out]; rfl, hB⟩
end Go.Proofs.YtgdeecmhhbdjgaaGreat
