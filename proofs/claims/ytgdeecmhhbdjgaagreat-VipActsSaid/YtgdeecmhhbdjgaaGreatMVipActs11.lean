import Derived.Test.YtgdeecmhhbdjgaaGreatMVipActs9
import Derived.Test.YtgdeecmhhbdjgaaGreatMVipActs10
import Derived.Test.YtgdeecmhhbdjgaaGreatMVipActs2
/- pool: Eligible and All, by ids. -/
namespace Go.Proofs.YtgdeecmhhbdjgaaGreat
set_option linter.unusedVariables false
open Go Go.RowKit Go.Maps

def bkK : RK (Int × Int × Int) where
  size := 3
  cel b := [.int .i64 b.1, .int .u32 b.2.1, .int .i64 b.2.2]
  ok _ _ _ := True
  pos := by omega
  len _ := rfl
  one _ u hu := by simp at hu; rcases hu with rfl | rfl | rfl <;> rfl
  keep _ _ := trivial
  more _ _ := trivial
theorem bk_ok : ElemOk Tryz.prog 107 120 bkK.size 24 (.agg #[.int .i64 0, .int .u32 0, .int .i64 0]) := ⟨Tryz.underlying107, by kernel_rfl, rfl, bkK.pos⟩
def bkOf (m : Mem) : Int × Int × Int := (m.id, m.ad, m.wt)
def selB (so : Mem → Bool) (L : List Mem) : List (Int × Int × Int) := (L.filter so).map bkOf
theorem selB_take (so : Mem → Bool) (L : List Mem) (k : Nat) (m : Mem) (h : L[k]? = some m) : selB so (L.take (k + 1)) = selB so (L.take k) ++ (if so m then [bkOf m] else []) := by
  unfold selB
  rw [List.take_add_one, h, Option.toList_some, List.filter_append, List.map_append]
  congr 1
  by_cases hm : so m <;> simp [hm]
theorem selB_len (so : Mem → Bool) (L : List Mem) : (selB so L).length ≤ L.length := by
  unfold selB
  rw [List.length_map]
  exact List.length_filter_le _ _
def ById (L : List Mem) : Prop := L.Pairwise fun a b => a.id < b.id
theorem ids_sorted {L M : List Mem} (hp : L.Perm M) (hs : ById L) : (M.map Mem.id).mergeSort leI = L.map Mem.id := by
  have h1 : (M.map Mem.id).mergeSort leI = (L.map Mem.id).mergeSort leI := mergeSort_of_perm_i (hp.symm.map _)
  rw [h1]
  refine List.mergeSort_of_pairwise ?_
  refine List.pairwise_map.2 (hs.imp fun {a b} h => ?_)
  simp only [leI, decide_eq_true_eq]
  omega
theorem memE_fst (M : List Mem) : (M.map memE).map Prod.fst = (M.map Mem.id).map (Value.int .i64) := by
  rw [List.map_map, List.map_map]; rfl
set_option maxRecDepth 100000 in
theorem so_every (w : World) (m : Mem) : Calls Tryz.prog 186 #[.agg #[.int .i64 m.id, .int .u32 m.ad, .int .i64 m.wt, .bool m.up, .bool m.dr]] w fun e w' => e = .returned (.bool (soAll m)) ∧ Below w.heap.size w w' := by
  have hB := (Below.refl w.heap.size w).alloc (Nat.le_refl _) (.cells #[.int .i64 m.id, .int .u32 m.ad, .int .i64 m.wt, .bool m.up, .bool m.dr] 216)
  go_enter Tryz.func186, Tryz.ntmps186
  go_upto_region 1 with (fail)
  generalize w.alloc (.cells #[.int .i64 m.id, .int .u32 m.ad, .int .i64 m.wt, .bool m.up, .bool m.dr] 216) = w1 at *
  go_wp2_with fail
  go_ret
  exact ⟨rfl, hB⟩
set_option maxRecDepth 100000 in
set_option maxHeartbeats 4000000 in
theorem some_all (w : World) (g b : Nat) (pc : Int) (M L : List Mem) (h : PoolIn w g b pc M) (hM : MemsOk M) (hp : L.Perm M) (hs : ById L) :
    Calls Tryz.prog 185 #[.pointer (some ⟨g, 0, none⟩), .func (.func 186) #[] #[]] w fun e w' => ∃ v, e = .returned v ∧ Rows bkK w' w.heap.size w.heap.size 120 v (selB soAll L) ∧ Below w.heap.size w w' := by
  have c1 : w.cell? ⟨g, 1, none⟩ = some (.map (some b)) := h.1.cellv 1 rfl
  have ltg := h.ltg
  have ltb := h.ltb
  have hLl : L.length ≤ 16 := by rw [hp.length_eq]; exact hM.1
  go_enter Tryz.func185, Tryz.ntmps185
  go_wp2_with (first
    | (go_at_call 182; refine (made_in h).mono ?_; rintro e w' ⟨rfl, rfl⟩)
    | (go_at_call 232; refine (keysP_any w b).mono ?_; rintro e w1 ⟨rfl, e1⟩; have hB1 : Below w.heap.size w w1 := (by rw [e1]; exact (Below.refl _ _).alloc (Nat.le_refl _) _); have hx : Blk w1 w.heap.size 228 #[.map (some b)] := (by rw [e1]; exact Blk.new w _ _); clear e1)
    | (go_at_call 231; refine (sortedP_any w1 w.heap.size b (M.map memE) (M.map Mem.id) hx.lt (hx.cellv 0 rfl) (h.nx hB1).2 (memE_fst M) (by rw [List.length_map]; have := hM.1; omega)).mono ?_; rintro e w2 ⟨v, rfl, hrow, hb2⟩; rw [ids_sorted hp hs, List.length_map, ← hp.length_eq] at hrow; have hrow := hrow; obtain ⟨IA, ic, rfl, hic, hia, hrd⟩ := Own1.any (size := 1) hrow))
  have hB2 := hB1.trans (hb2.mono hB1.size)
  have hz2 := hB2.size
  go_loopw [5, 7, 8, 19] (fun v _ _ i wr => ∃ k : Nat, k ≤ L.length ∧ i = .int .i64 (k : Int) ∧ Rows bkK wr w2.heap.size w2.heap.size 120 v (selB soAll (L.take k)) ∧ Below w2.heap.size w2 wr) (fun _ _ _ i _ => L.length - (intOf i).toNat)
  case atStart => exact ⟨0, Nat.zero_le _, rfl, Rows.nil _ _ _ _, Below.refl _ _⟩
  case round =>
  obtain ⟨k, hk, rfl, hv, hB⟩ := hrel
  have hz := hB.size
  have hB3 := hB2.trans (hB.mono hz2)
  have hBw := hB1.trans ((hb2.mono hB1.size).trans (hB.mono hz2))
  have hP := h.nx hBw
  have c1 : wr.cell? ⟨g, 1, none⟩ = some (.map (some b)) := hP.1.cellv 1 rfl
  have ltg := hP.ltg
  have hsl := selB_len soAll (L.take k)
  rw [List.length_take] at hsl
  by_cases hlt : k < L.length
  · obtain ⟨m, hm⟩ : ∃ m, L[k]? = some m := ⟨_, List.getElem?_eq_getElem hlt⟩
    have hmM : m ∈ M := hp.mem_iff.1 (List.mem_of_getElem? hm)
    have hmr := (hM.2 m hmM).1
    obtain ⟨ib, rfl, hib, hcell⟩ := hrd (by omega)
    have hid : wr.cell? ⟨ib, k, none⟩ = some (.int .i64 m.id) := by
      rw [hB.cell (p := ⟨ib, k, none⟩) hib, hcell k (by omega), List.map_map, List.getElem?_map, hm]; rfl
    have hib2 : ib < wr.heap.size := Nat.lt_of_lt_of_le hib hz
    have hki : (k : Int) < L.length := by omega
    have hlk := hP.2.hit0 int_key map_und (int_lit m.id (by omega) (by omega)) (is_id hmM)
    simp only [memC] at hlk
    have hj := Lib.hid (selB_take soAll L k m hm)
    have hb3 := (Below.refl wr.heap.size wr).alloc (Nat.le_refl _) (.cells #[.int .i64 m.id, .int .u32 m.ad, .int .i64 m.wt, .bool m.up, .bool m.dr] 216)
    have hq := Blk.new wr 216 #[.int .i64 m.id, .int .u32 m.ad, .int .i64 m.wt, .bool m.up, .bool m.dr]
    clear hcell
    go_upto_region 8 with (fail)
    clear hlk c1 hid
    generalize wr.alloc (.cells #[.int .i64 m.id, .int .u32 m.ad, .int .i64 m.wt, .bool m.up, .bool m.dr] 216) = w3 at *
    have q0 : w3.cell? ⟨wr.heap.size, 0, none⟩ = some (.int .i64 m.id) := hq.cellv 0 rfl
    have q1 : w3.cell? ⟨wr.heap.size, 1, none⟩ = some (.int .u32 m.ad) := hq.cellv 1 rfl
    have q2 : w3.cell? ⟨wr.heap.size, 2, none⟩ = some (.int .i64 m.wt) := hq.cellv 2 rfl
    have q3 : w3.cell? ⟨wr.heap.size, 3, none⟩ = some (.bool m.up) := hq.cellv 3 rfl
    have q4 : w3.cell? ⟨wr.heap.size, 4, none⟩ = some (.bool m.dr) := hq.cellv 4 rfl
    go_upto_region 9 with (go_at_call 186; refine (so_every w3 m).mono ?_; rintro e w4 ⟨rfl, hb4⟩; have hb5 := hb3.trans (hb4.mono hb3.size); have hq4 := hq.below hb4 hq.lt; clear q0 q1 q2 q3 q4 hq hb3 hb4; cases hso : soAll m)
    · exact ⟨⟨k + 1, by omega, by go_num, by rw [hj.out, hso]; simpa using hv.below hb5, hB.trans (hb5.mono hz)⟩, by simp [intOf]; omega⟩
    · have s0 : w4.cell? ⟨wr.heap.size, 0, none⟩ = some (.int .i64 m.id) := hq4.cellv 0 rfl
      have s1 : w4.cell? ⟨wr.heap.size, 1, none⟩ = some (.int .u32 m.ad) := hq4.cellv 1 rfl
      have s2 : w4.cell? ⟨wr.heap.size, 2, none⟩ = some (.int .i64 m.wt) := hq4.cellv 2 rfl
      have hv5 := (hv.below hb5).alloc (.cells #[.int .i64 m.id, .int .u32 m.ad, .int .i64 m.wt] 120)
      have hseen := seen_one (R := bkK) (S := fun _ => False) (S' := fun _ => True) w4 120 (bkOf m) #[.int .i64 m.id, .int .u32 m.ad, .int .i64 m.wt] rfl trivial (fun _ h => h.elim) trivial (fun _ h => h.elim)
      have hb6 := hb5.alloc hb5.size (.cells #[.int .i64 m.id, .int .u32 m.ad, .int .i64 m.wt] 120)
      have hz6 := hb6.size
      go_wp2_with (at_builtin; refine wpList_rows bk_ok rfl (.tmp 32) (.tmp 35) rfl hv5 rfl rfl hseen (fun _ _ => trivial) (by unfold maxLen; omega) (by omega) (by omega) ?_; intro v6 w6 hv6 hg6)
      exact ⟨⟨k + 1, by omega, by go_num, by rw [hj.out, hso]; exact hv6, hB.trans ((hb6.mono hz).trans (hv5.below_app hg6 (by omega)))⟩, by simp [intOf]; omega⟩
  · obtain rfl : k = L.length := by omega
    rw [List.take_length] at hv
    go_wp2_with fail
    go_ret
    exact ⟨_, rfl, hv.less hz2 hz2, hBw⟩
theorem pAll (w : World) (g b : Nat) (pc : Int) (M L : List Mem) (h : PoolIn w g b pc M) (hM : MemsOk M) (hp : L.Perm M) (hs : ById L) :
    Calls Tryz.prog 98 #[.pointer (some ⟨g, 0, none⟩)] w fun e w' => ∃ v, e = .returned v ∧ Rows bkK w' w.heap.size w.heap.size 120 v (selB soAll L) ∧ Below w.heap.size w w' := by
  go_enter Tryz.func98, Tryz.ntmps98
  go_wp2_with (go_at_call 185; refine (some_all w g b pc M L h hM hp hs).mono ?_; rintro e w' ⟨v, rfl, hv, hb⟩)
  go_ret
  exact ⟨v, rfl, hv, hb⟩
end Go.Proofs.YtgdeecmhhbdjgaaGreat

/- pool: Remove, Copy. -/
namespace Go.Proofs.YtgdeecmhhbdjgaaGreat
set_option linter.unusedVariables false
open Go Go.RowKit Go.Maps

set_option maxRecDepth 100000 in
set_option maxHeartbeats 1000000 in
theorem pCopy (w : World) (g b : Nat) (pc : Int) (M : List Mem) (h : PoolIn w g b pc M) :
    Calls Tryz.prog 100 #[.pointer (some ⟨g, 0, none⟩)] w fun e w' => ∃ g2 b2, e = .returned (.pointer (some ⟨g2, 0, none⟩)) ∧ PoolIn w' g2 b2 pc M ∧ w.heap.size ≤ g2 ∧ w.heap.size ≤ b2 ∧ Below w.heap.size w w' := by
  have c0 : w.cell? ⟨g, 0, none⟩ = some (.int .i64 pc) := h.1.cellv 0 rfl
  have c1 : w.cell? ⟨g, 1, none⟩ = some (.map (some b)) := h.1.cellv 1 rfl
  have ltg := h.ltg
  go_enter Tryz.func100, Tryz.ntmps100
  go_upto_region 3 with (go_at_call 182; refine (made_in h).mono ?_; rintro e w' ⟨rfl, rfl⟩)
  try refine wp_region_noPanic ?_
  refine wp_region_lat (by kernel_rfl) ?_
  (refine lat_now 0 (by rfl) ?_ (by kernel_rfl) (fun _ _ _ h => h) ?_ ?_; rotate_left; (focus (intro wq hSw; have hrd := zR hSw; go_simp; try with_reducible rfl; done)); try simp only [Act.put, zA, zB, zC])
  (refine lat_now 1 (by rfl) ?_ (by kernel_rfl) (fun _ _ _ h => h) ?_ ?_; rotate_left; (focus (intro wq hSw; have hrd := zR hSw; go_simp; try with_reducible rfl; done)); try simp only [Act.put, zA, zB, zC])
  (refine lat_now 2 (by rfl) ?_ (by kernel_rfl) (fun _ _ _ h => h) ?_ ?_; rotate_left; (focus (intro wq hSw; have hrd := zR hSw; go_simp; try with_reducible rfl; done)); try simp only [Act.put, zA, zB, zC])
  (refine lat_now 3 (by rfl) ?_ (by kernel_rfl) (fun _ _ _ h => h) ?_ ?_; rotate_left; (focus (intro wq hSw; have hrd := zR hSw; go_simp; try with_reducible rfl; done)); try simp only [Act.put, zA, zB, zC])
  (refine lat_now 4 (by rfl) ?_ (by kernel_rfl) (fun _ _ _ h => h) ?_ ?_; rotate_left; (focus (intro wq hSw; have hrd := zR hSw; go_simp; try with_reducible rfl; done)); try simp only [Act.put, zA, zB, zC])
  (refine lat_now 5 (by rfl) ?_ (by kernel_rfl) (fun _ _ _ h => h) ?_ ?_; rotate_left; (focus (intro wq hSw; have hrd := zR hSw; go_simp; try with_reducible rfl; done)); try simp only [Act.put, zA, zB, zC])
  (refine lat_now 6 (by rfl) ?_ (by kernel_rfl) (fun _ _ _ h => h) ?_ ?_; rotate_left; (focus (intro wq hSw; have hrd := zR hSw; go_simp; try with_reducible rfl; done)); try simp only [Act.put, zA, zB, zC])
  (refine lat_now 7 (by rfl) ?_ (by kernel_rfl) (fun _ _ _ h => h) ?_ ?_; rotate_left; (focus (intro wq hSw; have hrd := zR hSw; go_simp; try with_reducible rfl; done)); try simp only [Act.put, zA, zB, zC])
  refine lat_call 8 (by rfl) (by kernel_rfl) (by rfl) (fun wx hlx KQ hKQ => ?_)
  go_simp
  refine (cloneP_any wx b (M.map memE) (h.nx hlx).2).mono ?_
  rintro e w2 ⟨rfl, he2, hb2⟩
  refine hKQ.out _ _ hb2 ?_
  clear hKQ KQ
  try simp only [Act.put, zA, zB, zC]
  (refine lat_now 9 (by rfl) ?_ (by kernel_rfl) (fun _ _ _ h => h) ?_ ?_; rotate_left; (focus (intro wq hSw; have hrd := zR hSw; go_simp; try with_reducible rfl; done)); try simp only [Act.put, zA, zB, zC])
  refine lat_call 10 (by rfl) (by kernel_rfl) (by rfl) (fun wy hly KQ hKQ => ?_)
  go_simp
  have hb3 := (Below.refl wy.heap.size wy).alloc (Nat.le_refl _) (.cells #[.int .i64 pc, .map (some wx.heap.size)] 230)
  have hq := Blk.new wy 230 #[.int .i64 pc, .map (some wx.heap.size)]
  have he3 := (he2.below hly he2.lt).alloc (.cells #[.int .i64 pc, .map (some wx.heap.size)] 230)
  generalize wy.alloc (.cells #[.int .i64 pc, .map (some wx.heap.size)] 230) = w3 at *
  refine hKQ.out _ _ hb3 ?_
  clear hKQ KQ
  try simp only [Act.put, zA, zB, zC]
  (refine lat_now 11 (by rfl) ?_ (by kernel_rfl) (fun _ _ _ h => h) ?_ ?_; rotate_left; (focus (intro wq hSw; have hrd := zR hSw; go_simp; try with_reducible rfl; done)); try simp only [Act.put, zA, zB, zC])
  refine lat_done (by kernel_rfl) (fun wz hz => ?_) _
  try refine NoPanic.normal ?_
  go_wp2_with fail
  go_ret
  have hq2 := hq.below hz hq.lt
  have k1 := hlx.size
  have k2 := hb2.size
  have k3 := hly.size
  have hBz : Below w.heap.size w wz := Below.trans hlx (((hb2.mono k1).trans ((Below.mono hly (Nat.le_trans k1 k2)).trans (hb3.mono (by omega)))).trans (Below.mono hz (by have := hb3.size; omega)))
  exact ⟨_, _, rfl, ⟨hq2, he3.below hz he3.lt⟩, by omega, by omega, hBz⟩
end Go.Proofs.YtgdeecmhhbdjgaaGreat

/- vip: one that no call made. -/
namespace Go.Proofs.YtgdeecmhhbdjgaaGreat
set_option linter.unusedVariables false
set_option maxRecDepth 100000
open Go Go.RowKit Go.Maps

theorem cmap_und : Tryz.prog.underlying 60 = some (.map 3 159) := Tryz.underlying60
@[go_sem] theorem neq_cmap (m : Option Nat) (w : World) : (binOp .neq 60 (.map m) (.map none)).run Tryz.prog w = .ok (.bool (!m.isNone)) w := Go.run_neq_map_nil w _ _ _ m cmap_und
structure VpV where
  D : Option Addr
  ad : Int
  ln : Int
  p : Option Addr
  f : Option Addr
  m : Option Nat
  on : Bool
  lv : Int
def vpC (v : VpV) : Array Value := #[.pointer v.D, .int .u32 v.ad, .int .i64 v.ln, .pointer v.p, .pointer v.f, .map v.m, .bool v.on, .int .i64 v.lv]
def vpZ : VpV := ⟨none, 0, 0, none, none, none, false, 0⟩
theorem vpMade_yes (w : World) (g b : Nat) (v : VpV) (hv : v.m = some b) (h : Blk w g 62 (vpC v)) : Calls Tryz.prog 85 #[.pointer (some ⟨g, 0, none⟩)] w fun e w' => e = .returned (.bool true) ∧ w = w' := by
  have m5 : w.cell? ⟨g, 5, none⟩ = some (.map (some b)) := by rw [← hv]; exact h.cellv 5 rfl
  go_enter Tryz.func85, Tryz.ntmps85
  go_wp2_with fail
  go_ret
  exact ⟨rfl, rfl⟩
end Go.Proofs.YtgdeecmhhbdjgaaGreat

/- pool: the document's sums and lists. -/
namespace Go.Proofs.YtgdeecmhhbdjgaaGreat
set_option linter.unusedVariables false
open Go Go.RowKit Go.Maps

theorem refNew25 (w : World) (X : Nat → Prop) (pc : Int) (h1 : 1 ≤ pc) (h2 : pc ≤ 100) :
    Calls Tryz.prog 110 #[.int .i64 pc] w fun e w' => e = .returned (.pointer (some ⟨w.heap.size, 0, none⟩)) ∧ RefIn w' X w.heap.size pc [] ∧ Below w.heap.size w w' := by
  have d1 : decide (pc < 1) = false := by simp; omega
  have d2 : decide (100 < pc) = false := by simp; omega
  go_enter Tryz.func110, Tryz.ntmps110
  go_wp2_with fail
  go_ret
  exact ⟨rfl, ⟨none, 0, 0, Nat.le_refl _, Nat.zero_le _, Blk.new _ _ _, Seen.none_⟩, (Below.refl _ _).alloc (Nat.le_refl _) _⟩
theorem refNewNo25 (w : World) (pc : Int) (h : pc < 1 ∨ 100 < pc) :
    Calls Tryz.prog 110 #[.int .i64 pc] w fun e w' => e = .returned (.pointer none) ∧ w = w' := by
  go_enter Tryz.func110, Tryz.ntmps110
  by_cases d : pc < 1
  · have d1 : decide (pc < 1) = true := by simpa using d
    go_wp2_with fail
    go_ret
    exact ⟨rfl, rfl⟩
  have d1 : decide (pc < 1) = false := by simpa using d
  have d2 : decide (100 < pc) = true := by simp; omega
  go_wp2_with fail
  go_ret
  exact ⟨rfl, rfl⟩
theorem sumW_take (so : Mem → Bool) (L : List Mem) (k : Nat) (m : Mem) (h : L[k]? = some m) : sumW so (L.take (k + 1)) = sumW so (L.take k) + (if so m then m.wt else 0) := by
  rw [List.take_add_one, h, Option.toList_some, sumW_app]
set_option maxRecDepth 100000 in
set_option maxHeartbeats 2000000 in
theorem refTotal25 (w : World) (X : Nat → Prop) (g : Nat) (pc : Int) (L : List Mem) (h : RefIn w X g pc L) (hM : MemsOk L) :
    Calls Tryz.prog 235 #[.pointer (some ⟨g, 0, none⟩)] w fun e w' => e = .returned (.int .i64 (sumW soAll L)) ∧ Below w.heap.size w w' := by
  obtain ⟨A, n, c, hnc, hcm, hq, hS⟩ := h
  have hl := Lib.hid hS.1
  have hn : n ≤ 16 := by have := hS.1; have := hM.1; omega
  have c1 : w.cell? ⟨g, 1, none⟩ = some (.slice A n c) := hq.cellv 1 rfl
  have ltg := hq.lt
  go_enter Tryz.func235, Tryz.ntmps235
  go_wp2_with fail
  go_loopw [3, 5, 11] (fun v _ i wr => ∃ k : Nat, k ≤ n ∧ i = .int .i64 (k : Int) ∧ v = .int .i64 (sumW soAll (L.take k)) ∧ Below w.heap.size w wr) (fun _ _ i _ => n - (intOf i).toNat)
  case atStart => exact ⟨0, Nat.zero_le _, rfl, rfl, Below.refl _ _⟩
  case round =>
  obtain ⟨k, hk, rfl, rfl, hB⟩ := hrel
  have hz := hB.size
  have hsb := sumW_bd soAll (L.take k) fun m hm => (hM.2 m (List.mem_of_mem_take hm)).2
  rw [List.length_take] at hsb
  by_cases hlt : k < n
  · obtain ⟨b, off, m, rfl, hb, hr, q0, q1, q2, q3, q4⟩ := mem_cells (hS.below hB fun _ q => q.2) hlt
    have hb2 : b < wr.heap.size := Nat.lt_of_lt_of_le hb.2 hz
    have hki : (k : Int) < n := by omega
    have hB2 := hB.alloc hz (.cells #[.int .i64 m.id, .int .u32 m.ad, .int .i64 m.wt, .bool m.up, .bool m.dr] 240)
    have hq := Blk.new wr 240 #[.int .i64 m.id, .int .u32 m.ad, .int .i64 m.wt, .bool m.up, .bool m.dr]
    have hbm := (hM.2 m (List.mem_of_getElem? hr)).2
    have hst := Lib.hid (sumW_take soAll L k m hr)
    go_upto_region 5 with (fail)
    clear q0 q1 q2 q3 q4
    generalize wr.alloc (.cells #[.int .i64 m.id, .int .u32 m.ad, .int .i64 m.wt, .bool m.up, .bool m.dr] 240) = w2 at *
    have r2 : w2.cell? ⟨wr.heap.size, 2, none⟩ = some (.int .i64 m.wt) := hq.cellv 2 rfl
    have r3 : w2.cell? ⟨wr.heap.size, 3, none⟩ = some (.bool m.up) := hq.cellv 3 rfl
    have r4 : w2.cell? ⟨wr.heap.size, 4, none⟩ = some (.bool m.dr) := hq.cellv 4 rfl
    have kw : IntKind.i64.wrap (sumW soAll (L.take k) + m.wt) = sumW soAll (L.take k) + m.wt := IntWalk.i64_in _ (by omega)
    go_wp2_with fail
    all_goals (refine ⟨⟨k + 1, by omega, by go_num, ?_, hB2⟩, by simp [intOf]; omega⟩; rw [hst.out]; simp_all [soAll])
  · obtain rfl : k = n := by omega
    have e : L.take k = L := List.take_of_length_le (by have := hl.out; omega)
    replace e := Lib.hid e
    go_wp2_with fail
    go_ret
    exact ⟨by rw [← e.out]; exact congrArg (fun L' => Ending.returned (.int .i64 (sumW soAll L'))) (by rw [e.out, e.out]), hB⟩
set_option maxRecDepth 100000 in
set_option maxHeartbeats 2000000 in
theorem refHealthy25 (w : World) (X : Nat → Prop) (g : Nat) (pc : Int) (L : List Mem) (h : RefIn w X g pc L) (hM : MemsOk L) :
    Calls Tryz.prog 132 #[.pointer (some ⟨g, 0, none⟩)] w fun e w' => e = .returned (.int .i64 (sumW soUp L)) ∧ Below w.heap.size w w' := by
  obtain ⟨A, n, c, hnc, hcm, hq, hS⟩ := h
  have hl := Lib.hid hS.1
  have hn : n ≤ 16 := by have := hS.1; have := hM.1; omega
  have c1 : w.cell? ⟨g, 1, none⟩ = some (.slice A n c) := hq.cellv 1 rfl
  have ltg := hq.lt
  go_enter Tryz.func132, Tryz.ntmps132
  go_wp2_with fail
  go_loopw [3, 5, 11] (fun v _ i wr => ∃ k : Nat, k ≤ n ∧ i = .int .i64 (k : Int) ∧ v = .int .i64 (sumW soUp (L.take k)) ∧ Below w.heap.size w wr) (fun _ _ i _ => n - (intOf i).toNat)
  case atStart => exact ⟨0, Nat.zero_le _, rfl, rfl, Below.refl _ _⟩
  case round =>
  obtain ⟨k, hk, rfl, rfl, hB⟩ := hrel
  have hz := hB.size
  have hsb := sumW_bd soUp (L.take k) fun m hm => (hM.2 m (List.mem_of_mem_take hm)).2
  rw [List.length_take] at hsb
  by_cases hlt : k < n
  · obtain ⟨b, off, m, rfl, hb, hr, q0, q1, q2, q3, q4⟩ := mem_cells (hS.below hB fun _ q => q.2) hlt
    have hb2 : b < wr.heap.size := Nat.lt_of_lt_of_le hb.2 hz
    have hki : (k : Int) < n := by omega
    have hB2 := hB.alloc hz (.cells #[.int .i64 m.id, .int .u32 m.ad, .int .i64 m.wt, .bool m.up, .bool m.dr] 240)
    have hq := Blk.new wr 240 #[.int .i64 m.id, .int .u32 m.ad, .int .i64 m.wt, .bool m.up, .bool m.dr]
    have hbm := (hM.2 m (List.mem_of_getElem? hr)).2
    have hst := Lib.hid (sumW_take soUp L k m hr)
    go_upto_region 5 with (fail)
    clear q0 q1 q2 q3 q4
    generalize wr.alloc (.cells #[.int .i64 m.id, .int .u32 m.ad, .int .i64 m.wt, .bool m.up, .bool m.dr] 240) = w2 at *
    have r2 : w2.cell? ⟨wr.heap.size, 2, none⟩ = some (.int .i64 m.wt) := hq.cellv 2 rfl
    have r3 : w2.cell? ⟨wr.heap.size, 3, none⟩ = some (.bool m.up) := hq.cellv 3 rfl
    have r4 : w2.cell? ⟨wr.heap.size, 4, none⟩ = some (.bool m.dr) := hq.cellv 4 rfl
    have kw : IntKind.i64.wrap (sumW soUp (L.take k) + m.wt) = sumW soUp (L.take k) + m.wt := IntWalk.i64_in _ (by omega)
    go_wp2_with fail
    all_goals (refine ⟨⟨k + 1, by omega, by go_num, ?_, hB2⟩, by simp [intOf]; omega⟩; rw [hst.out]; simp_all [soUp])
  · obtain rfl : k = n := by omega
    have e : L.take k = L := List.take_of_length_le (by have := hl.out; omega)
    replace e := Lib.hid e
    go_wp2_with fail
    go_ret
    exact ⟨by rw [← e.out]; exact congrArg (fun L' => Ending.returned (.int .i64 (sumW soUp L'))) (by rw [e.out, e.out]), hB⟩
set_option maxRecDepth 100000 in
set_option maxHeartbeats 4000000 in
theorem refAll25 (w : World) (X : Nat → Prop) (g : Nat) (pc : Int) (L : List Mem) (h : RefIn w X g pc L) (hM : MemsOk L) :
    Calls Tryz.prog 127 #[.pointer (some ⟨g, 0, none⟩)] w fun e w' => ∃ v, e = .returned v ∧ Rows bkK w' w.heap.size w.heap.size 120 v (selB soAll L) ∧ Below w.heap.size w w' := by
  obtain ⟨A, n, c, hnc, hcm, hq, hS⟩ := h
  have hl := Lib.hid hS.1
  have hn : n ≤ 16 := by have := hS.1; have := hM.1; omega
  have c1 : w.cell? ⟨g, 1, none⟩ = some (.slice A n c) := hq.cellv 1 rfl
  have ltg := hq.lt
  go_enter Tryz.func127, Tryz.ntmps127
  go_wp2_with fail
  go_loopw [3, 5, 11] (fun v _ i wr => ∃ k : Nat, k ≤ n ∧ i = .int .i64 (k : Int) ∧ Rows bkK wr w.heap.size w.heap.size 120 v (selB soAll (L.take k)) ∧ Below w.heap.size w wr) (fun _ _ i _ => n - (intOf i).toNat)
  case atStart => exact ⟨0, Nat.zero_le _, rfl, Rows.nil _ _ _ _, Below.refl _ _⟩
  case round =>
  obtain ⟨k, hk, rfl, hv, hB⟩ := hrel
  have hz := hB.size
  have hsl := selB_len soAll (L.take k)
  rw [List.length_take] at hsl
  by_cases hlt : k < n
  · obtain ⟨b, off, m, rfl, hb, hr, q0, q1, q2, q3, q4⟩ := mem_cells (hS.below hB fun _ q => q.2) hlt
    have hb2 : b < wr.heap.size := Nat.lt_of_lt_of_le hb.2 hz
    have hki : (k : Int) < n := by omega
    have hb3 := (Below.refl wr.heap.size wr).alloc (Nat.le_refl _) (.cells #[.int .i64 m.id, .int .u32 m.ad, .int .i64 m.wt, .bool m.up, .bool m.dr] 240)
    have hq := Blk.new wr 240 #[.int .i64 m.id, .int .u32 m.ad, .int .i64 m.wt, .bool m.up, .bool m.dr]
    have hj := Lib.hid (selB_take soAll L k m hr)
    go_upto_region 5 with (fail)
    clear q0 q1 q2 q3 q4
    generalize wr.alloc (.cells #[.int .i64 m.id, .int .u32 m.ad, .int .i64 m.wt, .bool m.up, .bool m.dr] 240) = w4 at *
    have s0 : w4.cell? ⟨wr.heap.size, 0, none⟩ = some (.int .i64 m.id) := hq.cellv 0 rfl
    have s1 : w4.cell? ⟨wr.heap.size, 1, none⟩ = some (.int .u32 m.ad) := hq.cellv 1 rfl
    have s2 : w4.cell? ⟨wr.heap.size, 2, none⟩ = some (.int .i64 m.wt) := hq.cellv 2 rfl
    have s3 : w4.cell? ⟨wr.heap.size, 3, none⟩ = some (.bool m.up) := hq.cellv 3 rfl
    have s4 : w4.cell? ⟨wr.heap.size, 4, none⟩ = some (.bool m.dr) := hq.cellv 4 rfl
    have hB4 := hB.trans (hb3.mono hz)
    have hv4 := hv.below hb3
    have hv5 := hv4.alloc (.cells #[.int .i64 m.id, .int .u32 m.ad, .int .i64 m.wt] 120)
    have hseen := seen_one (R := bkK) (S := fun _ => False) (S' := fun _ => True) w4 120 (bkOf m) #[.int .i64 m.id, .int .u32 m.ad, .int .i64 m.wt] rfl trivial (fun _ h => h.elim) trivial (fun _ h => h.elim)
    have hb6 := hb3.alloc hb3.size (.cells #[.int .i64 m.id, .int .u32 m.ad, .int .i64 m.wt] 120)
    have hz6 := hb6.size
    replace hv4 := Lib.hid hv4
    go_wp2_with (at_builtin; refine wpList_rows bk_ok rfl (.tmp 15) (.tmp 18) rfl hv5 rfl rfl hseen (fun _ _ => trivial) (by unfold maxLen; omega) (by omega) (by omega) ?_; intro v6 w6 hv6 hg6)
    all_goals first
      | (have hx : soAll m = true := by first | rfl | (rw [hso]; simp [*]; done) | (rw [hso]; simp_all; done)
         exact ⟨⟨k + 1, by omega, by go_num, by rw [hj.out, hx]; exact hv6, hB.trans ((hb6.mono hz).trans (hv5.below_app hg6 (by omega)))⟩, by simp [intOf]; omega⟩)
      | (have hx : soAll m = false := by first | (rw [hso]; simp [*]; done) | (rw [hso]; simp_all; done) | (rw [hso]; simp_all; omega)
         exact ⟨⟨k + 1, by omega, by go_num, by rw [hj.out, hx]; simpa using hv4.out, hB4⟩, by simp [intOf]; omega⟩)
  · obtain rfl : k = n := by omega
    rw [List.take_of_length_le (by have := hl.out; omega)] at hv
    go_wp2_with fail
    go_ret
    exact ⟨_, rfl, hv, hB⟩
set_option maxRecDepth 100000 in
set_option maxHeartbeats 2000000 in
theorem refQuorate25 (w : World) (X : Nat → Prop) (g : Nat) (pc : Int) (L : List Mem) (h : RefIn w X g pc L) (hM : MemsOk L) :
    Calls Tryz.prog 199 #[.pointer (some ⟨g, 0, none⟩)] w fun e w' => e = .returned (.bool (quoB (sumW soUp L) (sumW soAll L) pc)) ∧ Below w.heap.size w w' := by
  have c0 : w.cell? ⟨g, 0, none⟩ = some (.int .i64 pc) := by obtain ⟨A, n, c, _, _, hq, _⟩ := h; exact hq.cellv 0 rfl
  have ltg := h.lt
  go_enter Tryz.func199, Tryz.ntmps199
  go_upto_region 1 with (fail)
  try refine wp_region_noPanic ?_
  refine wp_region_lat (by kernel_rfl) ?_
  (refine lat_now 0 (by rfl) ?_ (by kernel_rfl) (fun _ _ _ h => h) ?_ ?_; rotate_left; (focus (intro wq hSw; have hrd := zR hSw; go_simp; try with_reducible rfl; done)); try simp only [Act.put, zA, zB, zC])
  (refine lat_now 2 (by rfl) ?_ (by kernel_rfl) (fun _ _ _ h => h) ?_ ?_; rotate_left; (focus (intro wq hSw; have hrd := zR hSw; go_simp; try with_reducible rfl; done)); try simp only [Act.put, zA, zB, zC])
  (refine lat_now 4 (by rfl) ?_ (by kernel_rfl) (fun _ _ _ h => h) ?_ ?_; rotate_left; (focus (intro wq hSw; have hrd := zR hSw; go_simp; try with_reducible rfl; done)); try simp only [Act.put, zA, zB, zC])
  (refine lat_now 5 (by rfl) ?_ (by kernel_rfl) (fun _ _ _ h => h) ?_ ?_; rotate_left; (focus (intro wq hSw; have hrd := zR hSw; go_simp; try with_reducible rfl; done)); try simp only [Act.put, zA, zB, zC])
  (refine lat_now 6 (by rfl) ?_ (by kernel_rfl) (fun _ _ _ h => h) ?_ ?_; rotate_left; (focus (intro wq hSw; have hrd := zR hSw; go_simp; try with_reducible rfl; done)); try simp only [Act.put, zA, zB, zC])
  (refine lat_now 7 (by rfl) ?_ (by kernel_rfl) (fun _ _ _ h => h) ?_ ?_; rotate_left; (focus (intro wq hSw; have hrd := zR hSw; go_simp; try with_reducible rfl; done)); try simp only [Act.put, zA, zB, zC])
  (refine lat_late 1 (by rfl) (.int .i64 (sumW soUp L)) (by kernel_rfl) (fun _ _ _ h => h) (fun wq hSw => ⟨_, _, ?_, (refHealthy25 wq X g pc L (h.nx hSw) hM)⟩) ?_; focus (go_simp; try with_reducible rfl; done); try simp only [Act.put, zA, zB, zC])
  (refine lat_late 3 (by rfl) (.int .i64 (sumW soAll L)) (by kernel_rfl) (fun _ _ _ h => h) (fun wq hSw => ⟨_, _, ?_, (refTotal25 wq X g pc L (h.nx hSw) hM)⟩) ?_; focus (go_simp; try with_reducible rfl; done); try simp only [Act.put, zA, zB, zC])
  (refine lat_late 8 (by rfl) (.bool (quoB (sumW soUp L) (sumW soAll L) pc)) (by kernel_rfl) (fun _ _ _ h => h) (fun wq hSw => ⟨_, _, ?_, ((refQuorum_any wq _ _ _).mono fun _ _ q => ⟨q.1, q.2 ▸ Below.refl _ _⟩)⟩) ?_; focus (go_simp; try with_reducible rfl; done); try simp only [Act.put, zA, zB, zC])
  (refine lat_now 9 (by rfl) ?_ (by kernel_rfl) (fun _ _ _ h => h) ?_ ?_; rotate_left; (focus (intro wq hSw; have hrd := zR hSw; go_simp; try with_reducible rfl; done)); try simp only [Act.put, zA, zB, zC])
  refine lat_done (by kernel_rfl) (fun wz hz => ?_) _
  try refine NoPanic.normal ?_
  go_wp2_with fail
  go_ret
  exact ⟨rfl, hz⟩
end Go.Proofs.YtgdeecmhhbdjgaaGreat
