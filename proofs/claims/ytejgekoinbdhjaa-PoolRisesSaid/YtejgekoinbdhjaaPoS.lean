/- pool: Eligible and All, by ids. -/
import Derived.Test.YtejgekoinbdhjaaPoE
import Derived.Test.YtejgekoinbdhjaaSrt
namespace Go.Proofs.Ytejgekoinbdhjaa
set_option linter.unusedVariables false
open Go Go.RowKit Go.Maps

/-- backends as elements of rows: id, address, weight. -/
def bkK : RK (Int × Int × Int) where
  size := 3
  cel b := [.int .i64 b.1, .int .u32 b.2.1, .int .i64 b.2.2]
  ok _ _ _ := True
  pos := by omega
  len _ := rfl
  one _ u hu := by simp at hu; rcases hu with rfl | rfl | rfl <;> rfl
  keep _ _ := trivial
  more _ _ := trivial
theorem bk_ok : ElemOk Try.prog 42 26 bkK.size 24 (.agg #[.int .i64 0, .int .u32 0, .int .i64 0]) := ⟨Try.underlying42, by kernel_rfl, rfl, bkK.pos⟩
def bkOf (m : Mem) : Int × Int × Int := (m.id, m.ad, m.wt)
/-- the backends of those that are so. -/
def selB (so : Mem → Bool) (L : List Mem) : List (Int × Int × Int) := (L.filter so).map bkOf
theorem selB_take (so : Mem → Bool) (L : List Mem) (k : Nat) (m : Mem) (h : L[k]? = some m) : selB so (L.take (k + 1)) = selB so (L.take k) ++ (if so m then [bkOf m] else []) := by
  unfold selB
  rw [List.take_add_one, h, Option.toList_some, List.filter_append, List.map_append]
  congr 1
  by_cases hm : so m <;> simp [hm]
theorem selB_len (so : Mem → Bool) (L : List Mem) : (selB so L).length ≤ L.length := by
  unfold selB
  rw [List.length_map]
  exact List.length_filter_le _ _
/-- sorted by ids, each once. -/
def ById (L : List Mem) : Prop := L.Pairwise fun a b => a.id < b.id
theorem ids_sorted {L M : List Mem} (hp : L.Perm M) (hs : ById L) : (M.map Mem.id).mergeSort leI = L.map Mem.id := by
  have h1 : (M.map Mem.id).mergeSort leI = (L.map Mem.id).mergeSort leI := mergeSort_of_perm_i (hp.symm.map _)
  rw [h1]
  refine List.mergeSort_of_pairwise ?_
  refine List.pairwise_map.2 (hs.imp fun {a b} h => ?_)
  simp only [leI, decide_eq_true_eq]
  omega
theorem memE_fst (M : List Mem) : (M.map memE).map Prod.fst = (M.map Mem.id).map (Value.int .i64) := by
  rw [List.map_map, List.map_map]; rfl
set_option maxRecDepth 100000 in
set_option maxHeartbeats 1000000 in
theorem so_use (w : World) (m : Mem) : Calls Try.prog 97 #[.agg #[.int .i64 m.id, .int .u32 m.ad, .int .i64 m.wt, .bool m.up, .bool m.dr]] w fun e w' => e = .returned (.bool (soUse m)) ∧ Below w.heap.size w w' := by
  have hB := (Below.refl w.heap.size w).alloc (Nat.le_refl _) (.cells #[.int .i64 m.id, .int .u32 m.ad, .int .i64 m.wt, .bool m.up, .bool m.dr] 157)
  have hp := Blk.new w 157 #[.int .i64 m.id, .int .u32 m.ad, .int .i64 m.wt, .bool m.up, .bool m.dr]
  go_enter Try.func97, Try.ntmps97
  go_upto_region 1 with (fail)
  generalize w.alloc (.cells #[.int .i64 m.id, .int .u32 m.ad, .int .i64 m.wt, .bool m.up, .bool m.dr] 157) = w1 at *
  have p0 : w1.cell? ⟨w.heap.size, 0, none⟩ = some (.int .i64 m.id) := hp.cellv 0 rfl
  have p1 : w1.cell? ⟨w.heap.size, 1, none⟩ = some (.int .u32 m.ad) := hp.cellv 1 rfl
  have p2 : w1.cell? ⟨w.heap.size, 2, none⟩ = some (.int .i64 m.wt) := hp.cellv 2 rfl
  have p3 : w1.cell? ⟨w.heap.size, 3, none⟩ = some (.bool m.up) := hp.cellv 3 rfl
  have p4 : w1.cell? ⟨w.heap.size, 4, none⟩ = some (.bool m.dr) := hp.cellv 4 rfl
  go_wp2_with (go_at_call 95; refine (so_up w1 m).mono ?_; rintro e w2 ⟨rfl, hb⟩; have s2 := (hp.below hb hp.lt).cellv 2 (v := .int .i64 m.wt) rfl; have hB2 := hB.trans (hb.mono hB.size); cases hu : soUp m)
  all_goals go_ret
  all_goals (refine ⟨ret_bool ?_, hB2⟩; simp_all [soUse])
set_option maxRecDepth 100000 in
theorem so_every (w : World) (m : Mem) : Calls Try.prog 98 #[.agg #[.int .i64 m.id, .int .u32 m.ad, .int .i64 m.wt, .bool m.up, .bool m.dr]] w fun e w' => e = .returned (.bool (soAll m)) ∧ Below w.heap.size w w' := by
  have hB := (Below.refl w.heap.size w).alloc (Nat.le_refl _) (.cells #[.int .i64 m.id, .int .u32 m.ad, .int .i64 m.wt, .bool m.up, .bool m.dr] 157)
  go_enter Try.func98, Try.ntmps98
  go_upto_region 1 with (fail)
  generalize w.alloc (.cells #[.int .i64 m.id, .int .u32 m.ad, .int .i64 m.wt, .bool m.up, .bool m.dr] 157) = w1 at *
  go_wp2_with fail
  go_ret
  exact ⟨rfl, hB⟩
set_option maxRecDepth 100000 in
set_option maxHeartbeats 4000000 in
theorem some_all (w : World) (g b : Nat) (pc : Int) (M L : List Mem) (h : PoolIn w g b pc M) (hM : MemsOk M) (hp : L.Perm M) (hs : ById L) :
    Calls Try.prog 96 #[.pointer (some ⟨g, 0, none⟩), .func (.func 98) #[] #[]] w fun e w' => ∃ v, e = .returned v ∧ Rows bkK w' w.heap.size w.heap.size 26 v (selB soAll L) ∧ Below w.heap.size w w' := by
  have c1 : w.cell? ⟨g, 1, none⟩ = some (.map (some b)) := h.1.cellv 1 rfl
  have ltg := h.ltg
  have ltb := h.ltb
  have hLl : L.length ≤ 16 := by rw [hp.length_eq]; exact hM.1
  go_enter Try.func96, Try.ntmps96
  go_wp2_with (first
    | (go_at_call 87; refine (made_in h).mono ?_; rintro e w' ⟨rfl, rfl⟩)
    | (go_at_call 167; refine (keysP_any w b).mono ?_; rintro e w1 ⟨rfl, e1⟩; have hB1 : Below w.heap.size w w1 := (by rw [e1]; exact (Below.refl _ _).alloc (Nat.le_refl _) _); have hx : Blk w1 w.heap.size 29 #[.map (some b)] := (by rw [e1]; exact Blk.new w _ _); clear e1)
    | (go_at_call 139; refine (sortedP_any w1 w.heap.size b (M.map memE) (M.map Mem.id) hx.lt (hx.cellv 0 rfl) (h.nx hB1).2 (memE_fst M) (by rw [List.length_map]; have := hM.1; omega)).mono ?_; rintro e w2 ⟨v, rfl, hrow, hb2⟩; rw [ids_sorted hp hs, List.length_map, ← hp.length_eq] at hrow; have hrow := hrow; obtain ⟨IA, ic, rfl, hic, hia, hrd⟩ := Own1.any (size := 1) hrow))
  have hB2 := hB1.trans (hb2.mono hB1.size)
  have hz2 := hB2.size
  go_loopw [5, 7, 8, 19] (fun v _ _ i wr => ∃ k : Nat, k ≤ L.length ∧ i = .int .i64 (k : Int) ∧ Rows bkK wr w2.heap.size w2.heap.size 26 v (selB soAll (L.take k)) ∧ Below w2.heap.size w2 wr) (fun _ _ _ i _ => L.length - (intOf i).toNat)
  case atStart => exact ⟨0, Nat.zero_le _, rfl, Rows.nil _ _ _ _, Below.refl _ _⟩
  case round =>
  obtain ⟨k, hk, rfl, hv, hB⟩ := hrel
  have hz := hB.size
  have hB3 := hB2.trans (hB.mono hz2)
  have hBw := hB1.trans ((hb2.mono hB1.size).trans (hB.mono hz2))
  have hP := h.nx hBw
  have c1 : wr.cell? ⟨g, 1, none⟩ = some (.map (some b)) := hP.1.cellv 1 rfl
  have ltg := hP.ltg
  have hsl := selB_len soAll (L.take k)
  rw [List.length_take] at hsl
  by_cases hlt : k < L.length
  · obtain ⟨m, hm⟩ : ∃ m, L[k]? = some m := ⟨_, List.getElem?_eq_getElem hlt⟩
    have hmM : m ∈ M := hp.mem_iff.1 (List.mem_of_getElem? hm)
    have hmr := (hM.2 m hmM).1
    obtain ⟨ib, rfl, hib, hcell⟩ := hrd (by omega)
    have hid : wr.cell? ⟨ib, k, none⟩ = some (.int .i64 m.id) := by
      rw [hB.cell (p := ⟨ib, k, none⟩) hib, hcell k (by omega), List.map_map, List.getElem?_map, hm]; rfl
    have hib2 : ib < wr.heap.size := Nat.lt_of_lt_of_le hib hz
    have hki : (k : Int) < L.length := by omega
    have hlk := hP.2.hit0 int_key map_und (int_lit m.id (by omega) (by omega)) (is_id hmM)
    simp only [memC] at hlk
    have hj := Lib.hid (selB_take soAll L k m hm)
    have hb3 := (Below.refl wr.heap.size wr).alloc (Nat.le_refl _) (.cells #[.int .i64 m.id, .int .u32 m.ad, .int .i64 m.wt, .bool m.up, .bool m.dr] 157)
    have hq := Blk.new wr 157 #[.int .i64 m.id, .int .u32 m.ad, .int .i64 m.wt, .bool m.up, .bool m.dr]
    clear hcell
    go_upto_region 8 with (fail)
    clear hlk c1 hid
    generalize wr.alloc (.cells #[.int .i64 m.id, .int .u32 m.ad, .int .i64 m.wt, .bool m.up, .bool m.dr] 157) = w3 at *
    have q0 : w3.cell? ⟨wr.heap.size, 0, none⟩ = some (.int .i64 m.id) := hq.cellv 0 rfl
    have q1 : w3.cell? ⟨wr.heap.size, 1, none⟩ = some (.int .u32 m.ad) := hq.cellv 1 rfl
    have q2 : w3.cell? ⟨wr.heap.size, 2, none⟩ = some (.int .i64 m.wt) := hq.cellv 2 rfl
    have q3 : w3.cell? ⟨wr.heap.size, 3, none⟩ = some (.bool m.up) := hq.cellv 3 rfl
    have q4 : w3.cell? ⟨wr.heap.size, 4, none⟩ = some (.bool m.dr) := hq.cellv 4 rfl
    go_upto_region 9 with (go_at_call 98; refine (so_every w3 m).mono ?_; rintro e w4 ⟨rfl, hb4⟩; have hb5 := hb3.trans (hb4.mono hb3.size); have hq4 := hq.below hb4 hq.lt; clear q0 q1 q2 q3 q4 hq hb3 hb4; cases hso : soAll m)
    · exact ⟨⟨k + 1, by omega, by go_num, by rw [hj.out, hso]; simpa using hv.below hb5, hB.trans (hb5.mono hz)⟩, by simp [intOf]; omega⟩
    · have s0 : w4.cell? ⟨wr.heap.size, 0, none⟩ = some (.int .i64 m.id) := hq4.cellv 0 rfl
      have s1 : w4.cell? ⟨wr.heap.size, 1, none⟩ = some (.int .u32 m.ad) := hq4.cellv 1 rfl
      have s2 : w4.cell? ⟨wr.heap.size, 2, none⟩ = some (.int .i64 m.wt) := hq4.cellv 2 rfl
      have hv5 := (hv.below hb5).alloc (.cells #[.int .i64 m.id, .int .u32 m.ad, .int .i64 m.wt] 26)
      have hseen := seen_one (R := bkK) (S := fun _ => False) (S' := fun _ => True) w4 26 (bkOf m) #[.int .i64 m.id, .int .u32 m.ad, .int .i64 m.wt] rfl trivial (fun _ h => h.elim) trivial (fun _ h => h.elim)
      have hb6 := hb5.alloc hb5.size (.cells #[.int .i64 m.id, .int .u32 m.ad, .int .i64 m.wt] 26)
      have hz6 := hb6.size
      go_wp2_with (at_builtin; refine wpList_rows bk_ok rfl (.tmp 32) (.tmp 35) rfl hv5 rfl rfl hseen (fun _ _ => trivial) (by unfold maxLen; omega) (by omega) (by omega) ?_; intro v6 w6 hv6 hg6)
      exact ⟨⟨k + 1, by omega, by go_num, by rw [hj.out, hso]; exact hv6, hB.trans ((hb6.mono hz).trans (hv5.below_app hg6 (by omega)))⟩, by simp [intOf]; omega⟩
  · obtain rfl : k = L.length := by omega
    rw [List.take_length] at hv
    go_wp2_with fail
    go_ret
    exact ⟨_, rfl, hv.less hz2 hz2, hBw⟩
theorem pAll (w : World) (g b : Nat) (pc : Int) (M L : List Mem) (h : PoolIn w g b pc M) (hM : MemsOk M) (hp : L.Perm M) (hs : ById L) :
    Calls Try.prog 31 #[.pointer (some ⟨g, 0, none⟩)] w fun e w' => ∃ v, e = .returned v ∧ Rows bkK w' w.heap.size w.heap.size 26 v (selB soAll L) ∧ Below w.heap.size w w' := by
  go_enter Try.func31, Try.ntmps31
  go_wp2_with (go_at_call 96; refine (some_all w g b pc M L h hM hp hs).mono ?_; rintro e w' ⟨v, rfl, hv, hb⟩)
  go_ret
  exact ⟨v, rfl, hv, hb⟩
set_option maxRecDepth 100000 in
set_option maxHeartbeats 4000000 in
theorem some_use (w : World) (g b : Nat) (pc : Int) (M L : List Mem) (h : PoolIn w g b pc M) (hM : MemsOk M) (hp : L.Perm M) (hs : ById L) :
    Calls Try.prog 96 #[.pointer (some ⟨g, 0, none⟩), .func (.func 97) #[] #[]] w fun e w' => ∃ v, e = .returned v ∧ Rows bkK w' w.heap.size w.heap.size 26 v (selB soUse L) ∧ Below w.heap.size w w' := by
  have c1 : w.cell? ⟨g, 1, none⟩ = some (.map (some b)) := h.1.cellv 1 rfl
  have ltg := h.ltg
  have ltb := h.ltb
  have hLl : L.length ≤ 16 := by rw [hp.length_eq]; exact hM.1
  go_enter Try.func96, Try.ntmps96
  go_wp2_with (first
    | (go_at_call 87; refine (made_in h).mono ?_; rintro e w' ⟨rfl, rfl⟩)
    | (go_at_call 167; refine (keysP_any w b).mono ?_; rintro e w1 ⟨rfl, e1⟩; have hB1 : Below w.heap.size w w1 := (by rw [e1]; exact (Below.refl _ _).alloc (Nat.le_refl _) _); have hx : Blk w1 w.heap.size 29 #[.map (some b)] := (by rw [e1]; exact Blk.new w _ _); clear e1)
    | (go_at_call 139; refine (sortedP_any w1 w.heap.size b (M.map memE) (M.map Mem.id) hx.lt (hx.cellv 0 rfl) (h.nx hB1).2 (memE_fst M) (by rw [List.length_map]; have := hM.1; omega)).mono ?_; rintro e w2 ⟨v, rfl, hrow, hb2⟩; rw [ids_sorted hp hs, List.length_map, ← hp.length_eq] at hrow; have hrow := hrow; obtain ⟨IA, ic, rfl, hic, hia, hrd⟩ := Own1.any (size := 1) hrow))
  have hB2 := hB1.trans (hb2.mono hB1.size)
  have hz2 := hB2.size
  go_loopw [5, 7, 8, 19] (fun v _ _ i wr => ∃ k : Nat, k ≤ L.length ∧ i = .int .i64 (k : Int) ∧ Rows bkK wr w2.heap.size w2.heap.size 26 v (selB soUse (L.take k)) ∧ Below w2.heap.size w2 wr) (fun _ _ _ i _ => L.length - (intOf i).toNat)
  case atStart => exact ⟨0, Nat.zero_le _, rfl, Rows.nil _ _ _ _, Below.refl _ _⟩
  case round =>
  obtain ⟨k, hk, rfl, hv, hB⟩ := hrel
  have hz := hB.size
  have hB3 := hB2.trans (hB.mono hz2)
  have hBw := hB1.trans ((hb2.mono hB1.size).trans (hB.mono hz2))
  have hP := h.nx hBw
  have c1 : wr.cell? ⟨g, 1, none⟩ = some (.map (some b)) := hP.1.cellv 1 rfl
  have ltg := hP.ltg
  have hsl := selB_len soUse (L.take k)
  rw [List.length_take] at hsl
  by_cases hlt : k < L.length
  · obtain ⟨m, hm⟩ : ∃ m, L[k]? = some m := ⟨_, List.getElem?_eq_getElem hlt⟩
    have hmM : m ∈ M := hp.mem_iff.1 (List.mem_of_getElem? hm)
    have hmr := (hM.2 m hmM).1
    obtain ⟨ib, rfl, hib, hcell⟩ := hrd (by omega)
    have hid : wr.cell? ⟨ib, k, none⟩ = some (.int .i64 m.id) := by
      rw [hB.cell (p := ⟨ib, k, none⟩) hib, hcell k (by omega), List.map_map, List.getElem?_map, hm]; rfl
    have hib2 : ib < wr.heap.size := Nat.lt_of_lt_of_le hib hz
    have hki : (k : Int) < L.length := by omega
    have hlk := hP.2.hit0 int_key map_und (int_lit m.id (by omega) (by omega)) (is_id hmM)
    simp only [memC] at hlk
    have hj := Lib.hid (selB_take soUse L k m hm)
    have hb3 := (Below.refl wr.heap.size wr).alloc (Nat.le_refl _) (.cells #[.int .i64 m.id, .int .u32 m.ad, .int .i64 m.wt, .bool m.up, .bool m.dr] 157)
    have hq := Blk.new wr 157 #[.int .i64 m.id, .int .u32 m.ad, .int .i64 m.wt, .bool m.up, .bool m.dr]
    clear hcell
    go_upto_region 8 with (fail)
    clear hlk c1 hid
    generalize wr.alloc (.cells #[.int .i64 m.id, .int .u32 m.ad, .int .i64 m.wt, .bool m.up, .bool m.dr] 157) = w3 at *
    have q0 : w3.cell? ⟨wr.heap.size, 0, none⟩ = some (.int .i64 m.id) := hq.cellv 0 rfl
    have q1 : w3.cell? ⟨wr.heap.size, 1, none⟩ = some (.int .u32 m.ad) := hq.cellv 1 rfl
    have q2 : w3.cell? ⟨wr.heap.size, 2, none⟩ = some (.int .i64 m.wt) := hq.cellv 2 rfl
    have q3 : w3.cell? ⟨wr.heap.size, 3, none⟩ = some (.bool m.up) := hq.cellv 3 rfl
    have q4 : w3.cell? ⟨wr.heap.size, 4, none⟩ = some (.bool m.dr) := hq.cellv 4 rfl
    go_upto_region 9 with (go_at_call 97; refine (so_use w3 m).mono ?_; rintro e w4 ⟨rfl, hb4⟩; have hb5 := hb3.trans (hb4.mono hb3.size); have hq4 := hq.below hb4 hq.lt; clear q0 q1 q2 q3 q4 hq hb3 hb4; cases hso : soUse m)
    · exact ⟨⟨k + 1, by omega, by go_num, by rw [hj.out, hso]; simpa using hv.below hb5, hB.trans (hb5.mono hz)⟩, by simp [intOf]; omega⟩
    · have s0 : w4.cell? ⟨wr.heap.size, 0, none⟩ = some (.int .i64 m.id) := hq4.cellv 0 rfl
      have s1 : w4.cell? ⟨wr.heap.size, 1, none⟩ = some (.int .u32 m.ad) := hq4.cellv 1 rfl
      have s2 : w4.cell? ⟨wr.heap.size, 2, none⟩ = some (.int .i64 m.wt) := hq4.cellv 2 rfl
      have hv5 := (hv.below hb5).alloc (.cells #[.int .i64 m.id, .int .u32 m.ad, .int .i64 m.wt] 26)
      have hseen := seen_one (R := bkK) (S := fun _ => False) (S' := fun _ => True) w4 26 (bkOf m) #[.int .i64 m.id, .int .u32 m.ad, .int .i64 m.wt] rfl trivial (fun _ h => h.elim) trivial (fun _ h => h.elim)
      have hb6 := hb5.alloc hb5.size (.cells #[.int .i64 m.id, .int .u32 m.ad, .int .i64 m.wt] 26)
      have hz6 := hb6.size
      go_wp2_with (at_builtin; refine wpList_rows bk_ok rfl (.tmp 32) (.tmp 35) rfl hv5 rfl rfl hseen (fun _ _ => trivial) (by unfold maxLen; omega) (by omega) (by omega) ?_; intro v6 w6 hv6 hg6)
      exact ⟨⟨k + 1, by omega, by go_num, by rw [hj.out, hso]; exact hv6, hB.trans ((hb6.mono hz).trans (hv5.below_app hg6 (by omega)))⟩, by simp [intOf]; omega⟩
  · obtain rfl : k = L.length := by omega
    rw [List.take_length] at hv
    go_wp2_with fail
    go_ret
    exact ⟨_, rfl, hv.less hz2 hz2, hBw⟩
theorem pEligible (w : World) (g b : Nat) (pc : Int) (M L : List Mem) (h : PoolIn w g b pc M) (hM : MemsOk M) (hp : L.Perm M) (hs : ById L) :
    Calls Try.prog 30 #[.pointer (some ⟨g, 0, none⟩)] w fun e w' => ∃ v, e = .returned v ∧ Rows bkK w' w.heap.size w.heap.size 26 v (selB soUse L) ∧ Below w.heap.size w w' := by
  go_enter Try.func30, Try.ntmps30
  go_wp2_with (go_at_call 96; refine (some_use w g b pc M L h hM hp hs).mono ?_; rintro e w' ⟨v, rfl, hv, hb⟩)
  go_ret
  exact ⟨v, rfl, hv, hb⟩
end Go.Proofs.Ytejgekoinbdhjaa
