/- pool: PoolRises. -/
import Derived.Test.YtejgekoinbdhjaaPqG
namespace Go.Proofs.Ytejgekoinbdhjaa
set_option linter.unusedVariables false
open Go Go.RowKit Go.Maps

theorem up_bd {M L : List Mem} (h : Rel M L) : (∀ m ∈ L, 0 ≤ m.wt) ∧ sumW soUp L ≤ 1000000 := by
  have ho := rel_ok h
  have := sumW_bd soUp L fun m hm => (ho.2 m hm).2
  have hl := ho.1
  exact ⟨fun m hm => (ho.2 m hm).2.1, by omega⟩
set_option maxRecDepth 100000 in
set_option maxHeartbeats 16000000 in
theorem rises25_walk (pr : Int) (A1 : Option Addr) (n1 c1 : Nat) (rs1 : List ActV) (id : Int) (w : World) (_wp : (Lit.int .u8 pr).wf = true) (hc1 : n1 ≤ c1) (hm1 : c1 ≤ maxLen) (hS1 : Seen actK w (fun b => b < w.heap.size) A1 n1 rs1) (_wi : (Lit.int .i64 id).wf = true) :
    Calls Try.prog 5 #[.int .u8 pr, .slice A1 n1 c1, .int .i64 id] w fun e w' => e = .returned (.bool true) ∧ Below w.heap.size w w' := by
  have hl1 := Lib.hid hS1.1
  have hp := _wp
  have hi := _wi
  simp only [Lit.wf, Bool.and_eq_true, decide_eq_true_eq] at hp hi
  replace hp : 0 ≤ pr ∧ pr ≤ 255 := hp
  replace hi : -9223372036854775808 ≤ id ∧ id ≤ 9223372036854775807 := hi
  go_enter Try.func5, Try.ntmps5
  by_cases hbig : 150 < n1
  · have d1 : decide ((150 : Int) < n1) = true := by simp; omega
    go_wp2_with (go_at_call 18; refine (lives25_any w).mono ?_; rintro e w' ⟨rfl, hb⟩)
    go_ret
    exact ⟨rfl, hb⟩
  have hn1 : n1 ≤ 150 := by omega
  have d1 : decide ((150 : Int) < n1) = false := by simp; omega
  have htm : Int.tmod pr 100 = pr % 100 := Int.tmod_eq_emod_of_nonneg hp.1
  clear htm
  go_wp2_with fail
  refine (new_in w (1 + pr % 100) (by omega) (by omega)).mono ?_
  rintro e w1 ⟨g, b, rfl, hP, hgg, hbb, hB⟩
  have hpc1 : 1 ≤ 1 + pr % 100 ∧ 1 + pr % 100 ≤ 100 := by omega
  generalize 1 + pr % 100 = pc at *
  have hz1 := hB.size
  clear hp _wp
  go_wp2_with fail
  go_loopw [9, 24] (fun _ i wr => ∃ (k : Nat) (M L : List Mem), k ≤ n1 ∧ i = .int .i64 (k : Int) ∧ PoolIn wr g b pc M ∧ Rel M L ∧ Below w.heap.size w wr) (fun _ i _ => n1 - (intOf i).toNat)
  case atStart => exact ⟨0, [], [], Nat.zero_le _, rfl, hP, rel_nil, hB⟩
  case round =>
  obtain ⟨k, M, L, hk, rfl, hP, hR, hB⟩ := hrel
  have hz := hB.size
  by_cases hlt : k < n1
  · obtain ⟨ab, off, a, rfl, hab, hka, hid, q0, q1, q2, q3, q4⟩ := act_cells (acts_at hS1 hB) hlt
    have lta : ab < wr.heap.size := Nat.lt_of_lt_of_le hab hz
    have hki : (k : Int) < n1 := by omega
    have hbx := (Below.refl wr.heap.size wr).alloc (Nat.le_refl _) (.cells #[.int .i64 a.k, .int .i64 a.id, .int .u32 a.ad, .int .i64 a.wt, .bool a.on] 28)
    have hqx := Blk.new wr 28 #[.int .i64 a.k, .int .i64 a.id, .int .u32 a.ad, .int .i64 a.wt, .bool a.on]
    have ltb := hP.ltb
    go_upto_region 7 with (fail)
    clear q0 q1 q2 q3 q4
    generalize wr.alloc (.cells #[.int .i64 a.k, .int .i64 a.id, .int .u32 a.ad, .int .i64 a.wt, .bool a.on] 28) = w3 at *
    have ltx := hqx.lt
    have hP3 := hP.nx hbx
    have hB3 := hB.trans (hbx.mono hz)
    have hz3 := hB3.size
    -- region 7: 0 1C 2 3C
    try refine wp_region_noPanic ?_
    have hs1r : (fun w' => Below w3.heap.size w3 w') w3.drew := (Below.refl _ _).drew
    refine wp_region_E 3 (S := fun w' => Below w3.heap.size w3 w') (by kernel_rfl) hs1r (fun _ => ?_)
    (refine e_takeA 0 (by rfl) ?_ (by kernel_rfl) (fun _ _ _ h => h) hs1r ?_ ?_; rotate_left; (focus (intro wq hSw; have hrd := hSw; go_simp; try with_reducible rfl; done)); try simp only [Act.put, List.setIfInBounds_toArray, List.set_cons_zero, List.set_cons_succ])
    (refine e_takeA 2 (by rfl) ?_ (by kernel_rfl) (fun _ _ _ h => h) hs1r ?_ ?_; rotate_left; (focus (intro wq hSw; refine exec_load_blk (x := .tmp 9) ?_ ?_ (hqx.below hSw hqx.lt) _ Try.underlying28 rfl (by kernel_rfl) <;> rfl)); simp only [Act.put, List.setIfInBounds_toArray, List.set_cons_zero, List.set_cons_succ])
    refine e_callA 1 (by rfl) (by kernel_rfl) (by rfl) (fun KQ hKQ => ?_)
    go_simp
    refine (refNew25 w3.drew (fun i => i ≠ b) 1 (by omega) (by omega)).mono ?_
    rintro e w4 ⟨rfl, hQ, hb4⟩
    have hb4' : Below w3.heap.size w3 w4 := (Below.refl _ _).drew.trans hb4
    have hs2r := hb4'
    refine hKQ.out _ _ hs2r ?_
    clear hKQ KQ
    try simp only [Act.put, List.setIfInBounds_toArray, List.set_cons_zero, List.set_cons_succ]
    have hP4 := hP3.nx hb4'
    have hB4 := hB3.trans (hb4'.mono hz3)
    obtain ⟨hx, hR2⟩ := rel_act hR a
    have hQ : RefIn w4 (fun i => i ≠ b) w3.heap.size 1 [] := hQ
    have hca := act_any w4 g b pc M (fun i => i ≠ b) w3.heap.size 1 [] a hP4 hQ (by simp) (fun _ q => q) (fun i q => by have := hP4.ltb; omega) hid.1 hid.2
    unfold actC at hca
    refine e_last (by rfl) (by kernel_rfl) (by rfl) (fun KQ hKQ => ?_)
    go_simp
    refine hca.mono ?_
    rintro e w5 ⟨rfl, hP5, hQ5, wm, hg1, hg2⟩
    have hB5 := below_own (below_own hB4 hg1 hB4.size hbb) hg2 (Nat.le_trans hB4.size hg1.size) hz3
    refine hKQ.out _ _ ?_
    clear hKQ KQ
    try simp only [Act.put, List.setIfInBounds_toArray, List.set_cons_zero, List.set_cons_succ]
    refine e_done (by kernel_rfl) ?_ _
    try refine NoPanic.normal ?_
    go_wp2_with fail
    exact ⟨⟨k + 1, _, _, by omega, by go_num, hP5, hR2, hB5⟩, by simp [intOf]; omega⟩
  · obtain rfl : k = n1 := by omega
    have hM := hR.2.2
    obtain ⟨hwt, hup⟩ := up_bd hR
    -- quorate?
    go_upto_region 10 with (go_at_call 27; refine (pQuorate wr g b pc M hP hM).mono ?_; rintro e w3 ⟨rfl, hb3⟩)
    rw [rel_sum hR soUp, rel_sum hR soAll]
    have hP3 := hP.nx hb3
    have hB3 := hB.trans (hb3.mono hz)
    generalize hq : quoB (sumW soUp L) (sumW soAll L) pc = qb
    obtain ⟨hs1, ha1⟩ := rise_mark L id hwt
    have hR1 := (rel_mark hR id true).2
    obtain ⟨hwt1, hup1⟩ := up_bd hR1
    obtain ⟨hs2, ha2⟩ := rise_drain (markR L id true).2 id hwt1
    have hR2 := (rel_drain hR1 id false).2
    obtain ⟨hwt2, hup2⟩ := up_bd hR2
    have hq2 : qb = true → quoB (sumW soUp (drainR (markR L id true).2 id false).2) (sumW soAll (drainR (markR L id true).2 id false).2) pc = true := by
      intro q
      rw [ha2, ha1]
      exact quo_mono (hq.trans q) (by omega) hup2
    have hne : qb = true → 0 < (selB soUse L).length := by
      intro q
      have h1 := use_ne hwt (quo_pos (hq.trans q))
      exact List.length_pos_iff.2 h1
    replace hq := Lib.hid hq
    clear hs1 ha1 hs2 ha2
    cases qb with
    | false =>
      go_upto_region 16 with (first
        | (go_at_call 23; refine (pMarkS w3 g b pc M hP3 id hi.1 hi.2 true).mono ?_; rintro e w4 ⟨rfl, hP4, hg4⟩; have hB4 := below_own hB3 hg4 hB3.size hbb)
        | (go_at_call 24; refine (pDrainS w4 g b pc _ hP4 id hi.1 hi.2 false).mono ?_; rintro e w5 ⟨rfl, hP5, hg5⟩; have hB5 := below_own hB4 hg5 hB4.size hbb))
      clear hq2 hne hwt hwt1 hwt2 hup hup1 hup2 hq
      generalize (drainR (markR M id true).2 id false).2 = M2 at *
      generalize (drainR (markR L id true).2 id false).2 = L2 at *
      have hb50 := hP5.ltb
      go_upto_region 17 with (go_at_call 31; refine (pAll w5 g b pc M2 L2 hP5 hR2.2.2 hR2.1 hR2.2.1).mono ?_; rintro e w7 ⟨v, rfl, hv, hb7⟩; rw [selB_all] at hv; obtain ⟨VA, vc, rfl, hvc1, hvc2, hS7⟩ := hv.seen (Nat.le_refl _))
      have hP7 := hP5.nx hb7
      have hB7 := hB5.trans (hb7.mono hB5.size)
      have hvl : (L2.map bkOf).length = L2.length := List.length_map _
      rw [hvl] at hS7
      try rw [hvl]
      have hL2 := (rel_ok hR2).1
      obtain ⟨Z, hZ⟩ : ∃ Z, Z = w7.heap.size := ⟨_, rfl⟩
      have hSZ : Seen bkK w7 (fun i => w5.heap.size ≤ i ∧ i < Z) VA L2.length (L2.map bkOf) := by rw [hZ]; exact hS7
      have hZ7 : Z ≤ w7.heap.size := Nat.le_of_eq hZ
      clear hZ hS7 hv
      generalize w5.heap.size = Y at *
      go_loopw [12, 57] (fun _ i wq => ∃ (j : Nat) (M3 L3 : List Mem), j ≤ L2.length ∧ i = .int .i64 (j : Int) ∧ PoolIn wq g b pc M3 ∧ Rel M3 L3 ∧ L3.map Mem.id = L2.map Mem.id ∧ (∀ q m, q < j → L3[q]? = some m → m.up = false) ∧ Below w.heap.size w wq ∧ Seen bkK wq (fun i => Y ≤ i ∧ i < Z) VA L2.length (L2.map bkOf) ∧ Z ≤ wq.heap.size) (fun _ i _ => L2.length - (intOf i).toNat)
      case atStart => exact ⟨0, M2, L2, Nat.zero_le _, rfl, hP7, hR2, rfl, fun q m hq => absurd hq (by omega), hB7, hSZ, hZ7⟩
      case round =>
      obtain ⟨j, M3, L3, hj, rfl, hP8, hR3, hids, hdn, hB8, hS8, hZ8⟩ := hrel
      have hz8 := hB8.size
      have hlen3 : L3.length = L2.length := by have := congrArg List.length hids; simpa using this
      by_cases hlt : j < L2.length
      · obtain ⟨b', off, x, y, z, rfl, hb', hxk, q0, q1, q2⟩ := bk_cells hS8 hlt
        obtain ⟨m3, hm3⟩ : ∃ m3, L3[j]? = some m3 := ⟨_, List.getElem?_eq_getElem (by omega)⟩
        have hx3 : x = m3.id := by
          rw [List.getElem?_map] at hxk
          obtain ⟨m2, hm2, e2⟩ := Option.map_eq_some_iff.1 hxk
          have h4 := congrArg (fun l : List Int => l[j]?) hids
          simp only [List.getElem?_map, hm3, hm2, Option.map_some] at h4
          injection h4 with h4
          unfold bkOf at e2
          injection e2 with e2
          rw [← e2, ← h4]
        subst hx3
        have hr3 := ((rel_ok hR3).2 m3 (List.mem_of_getElem? hm3)).1
        have ltb' : b' < wr.heap.size := Nat.lt_of_lt_of_le hb'.2 hZ8
        have hki : (j : Int) < L2.length := by omega
        have hbx := (Below.refl wr.heap.size wr).alloc (Nat.le_refl _) (.cells #[.int .i64 m3.id, .int .u32 y, .int .i64 z] 26)
        have hqx := Blk.new wr 26 #[.int .i64 m3.id, .int .u32 y, .int .i64 z]
        have hS9 := hS8.below hbx fun i q => Nat.lt_of_lt_of_le q.2 hZ8
        go_upto_region 19 with (fail)
        clear q0 q1 q2
        generalize wr.alloc (.cells #[.int .i64 m3.id, .int .u32 y, .int .i64 z] 26) = w8 at *
        have s0 : w8.cell? ⟨wr.heap.size, 0, none⟩ = some (.int .i64 m3.id) := hqx.cellv 0 rfl
        have hB9 := hB8.trans (hbx.mono hz8)
        have hzx := hbx.size
        have hR4 := (rel_mark hR3 m3.id false).2
        rw [mark_at hR3.2.1 hm3] at hR4
        have hids4 : (L3.set j { m3 with up := false }).map Mem.id = L2.map Mem.id := by
          rw [← hids, List.map_set]
          apply List.ext_getElem?
          intro q
          rw [List.getElem?_set]
          split
          · rename_i hq; subst hq; rw [List.getElem?_map, hm3]; simp [show j < L3.length by omega]
          · rfl
        have hdn4 : ∀ q m, q < j + 1 → (L3.set j { m3 with up := false })[q]? = some m → m.up = false := by
          intro q m hq hm
          rw [List.getElem?_set] at hm
          split at hm
          · rename_i e
            simp at hm
            rw [← hm.2]
          · exact hdn q m (by omega) hm
        replace hids4 := Lib.hid hids4
        replace hdn4 := Lib.hid hdn4
        replace hdn := Lib.hid hdn
        replace hids := Lib.hid hids
        go_wp2_with (go_at_call 23; refine (pMarkS w8 g b pc M3 (hP8.nx hbx) m3.id (by omega) (by omega) false).mono ?_; rintro e w9 ⟨rfl, hP9, hg9⟩)
        exact ⟨⟨j + 1, _, _, by omega, by go_num, hP9, hR4, hids4.out, hdn4.out, below_own hB9 hg9 hB9.size hbb, hS9.grown hg9 (fun i q => ⟨by omega, fun e => by injection e with e; omega⟩), Nat.le_trans hZ8 (Nat.le_trans hzx hg9.size)⟩, by simp [intOf]; omega⟩
      · obtain rfl : j = L2.length := by omega
        have hall : ∀ m ∈ L3, m.up = false := by
          intro m hm
          obtain ⟨q, hq, e⟩ := List.getElem_of_mem hm
          exact hdn q m (by omega) (by rw [List.getElem?_eq_getElem hq, e])
        have c1 := fun (w : World) (h : PoolIn w g b pc M3) => pQuorate w g b pc M3 h hR3.2.2
        have c2 := fun (w : World) (h : PoolIn w g b pc M3) => pHealthy w g b pc M3 h hR3.2.2
        have c3 := fun (w : World) (h : PoolIn w g b pc M3) => pEligible w g b pc M3 L3 h hR3.2.2 hR3.1 hR3.2.1
        rw [rel_sum hR3 soUp, down_sum hall] at c1 c2
        simp only [quo_zero] at c1
        rw [down_use hall] at c3
        clear hdn hids hall
        go_wp2_with (first
          | (go_at_call 27; refine (c1 wr hP8).mono ?_; rintro e w8 ⟨rfl, hb8⟩; have hB9 := hB8.trans (hb8.mono hz8); have hP9 := hP8.nx hb8)
          | (go_at_call 29; refine (c2 w8 hP9).mono ?_; rintro e w9 ⟨rfl, hb9⟩; have hBa := hB9.trans (hb9.mono hB9.size); have hPa := hP9.nx hb9)
          | (go_at_call 30; refine (c3 w9 hPa).mono ?_; rintro e wa ⟨v, rfl, hv, hba⟩; obtain ⟨UA, uc, rfl, _, _, _⟩ := hv.seen (Nat.le_refl _); have hBb := hBa.trans (hba.mono hBa.size))
          | (go_at_call 18; refine (lives25_any wa).mono ?_; rintro e wb ⟨rfl, hbb'⟩))
        go_ret
        exact ⟨rfl, hBb.trans (hbb'.mono hBb.size)⟩
    | true =>
      have hq3 := hq2 rfl
      have hne3 := hne rfl
      go_upto_region 16 with (first
        | (go_at_call 30; refine (pEligible w3 g b pc M L hP3 hM hR.1 hR.2.1).mono ?_; rintro e w3' ⟨v, rfl, hv, hb3'⟩; obtain ⟨VA, vc, rfl, _, _, _⟩ := hv.seen (Nat.le_refl _); have hP3 := hP3.nx hb3'; have hB3 := hB3.trans (hb3'.mono hB3.size))
        | (go_at_call 23; refine (pMarkS w3' g b pc M hP3 id hi.1 hi.2 true).mono ?_; rintro e w4 ⟨rfl, hP4, hg4⟩; have hB4 := below_own hB3 hg4 hB3.size hbb)
        | (go_at_call 24; refine (pDrainS w4 g b pc _ hP4 id hi.1 hi.2 false).mono ?_; rintro e w5 ⟨rfl, hP5, hg5⟩; have hB5 := below_own hB4 hg5 hB4.size hbb)
        | (go_at_call 27; refine (pQuorate w5 g b pc _ hP5 hR2.2.2).mono ?_; rintro e w6 ⟨rfl, hb6⟩; rw [rel_sum hR2 soUp, rel_sum hR2 soAll, hq3]; have hP5 := hP5.nx hb6; have hB5 := hB5.trans (hb6.mono hB5.size)))
      clear hq3
      clear hq2 hne hwt hwt1 hwt2 hup hup1 hup2 hq
      generalize (drainR (markR M id true).2 id false).2 = M2 at *
      generalize (drainR (markR L id true).2 id false).2 = L2 at *
      have hb50 := hP5.ltb
      go_upto_region 17 with (go_at_call 31; refine (pAll w6 g b pc M2 L2 hP5 hR2.2.2 hR2.1 hR2.2.1).mono ?_; rintro e w7 ⟨v, rfl, hv, hb7⟩; rw [selB_all] at hv; obtain ⟨VA, vc, rfl, hvc1, hvc2, hS7⟩ := hv.seen (Nat.le_refl _))
      have hP7 := hP5.nx hb7
      have hB7 := hB5.trans (hb7.mono hB5.size)
      have hvl : (L2.map bkOf).length = L2.length := List.length_map _
      rw [hvl] at hS7
      try rw [hvl]
      have hL2 := (rel_ok hR2).1
      obtain ⟨Z, hZ⟩ : ∃ Z, Z = w7.heap.size := ⟨_, rfl⟩
      have hSZ : Seen bkK w7 (fun i => w6.heap.size ≤ i ∧ i < Z) VA L2.length (L2.map bkOf) := by rw [hZ]; exact hS7
      have hZ7 : Z ≤ w7.heap.size := Nat.le_of_eq hZ
      clear hZ hS7 hv
      generalize w6.heap.size = Y at *
      go_loopw [12, 57] (fun _ i wq => ∃ (j : Nat) (M3 L3 : List Mem), j ≤ L2.length ∧ i = .int .i64 (j : Int) ∧ PoolIn wq g b pc M3 ∧ Rel M3 L3 ∧ L3.map Mem.id = L2.map Mem.id ∧ (∀ q m, q < j → L3[q]? = some m → m.up = false) ∧ Below w.heap.size w wq ∧ Seen bkK wq (fun i => Y ≤ i ∧ i < Z) VA L2.length (L2.map bkOf) ∧ Z ≤ wq.heap.size) (fun _ i _ => L2.length - (intOf i).toNat)
      case atStart => exact ⟨0, M2, L2, Nat.zero_le _, rfl, hP7, hR2, rfl, fun q m hq => absurd hq (by omega), hB7, hSZ, hZ7⟩
      case round =>
      obtain ⟨j, M3, L3, hj, rfl, hP8, hR3, hids, hdn, hB8, hS8, hZ8⟩ := hrel
      have hz8 := hB8.size
      have hlen3 : L3.length = L2.length := by have := congrArg List.length hids; simpa using this
      by_cases hlt : j < L2.length
      · obtain ⟨b', off, x, y, z, rfl, hb', hxk, q0, q1, q2⟩ := bk_cells hS8 hlt
        obtain ⟨m3, hm3⟩ : ∃ m3, L3[j]? = some m3 := ⟨_, List.getElem?_eq_getElem (by omega)⟩
        have hx3 : x = m3.id := by
          rw [List.getElem?_map] at hxk
          obtain ⟨m2, hm2, e2⟩ := Option.map_eq_some_iff.1 hxk
          have h4 := congrArg (fun l : List Int => l[j]?) hids
          simp only [List.getElem?_map, hm3, hm2, Option.map_some] at h4
          injection h4 with h4
          unfold bkOf at e2
          injection e2 with e2
          rw [← e2, ← h4]
        subst hx3
        have hr3 := ((rel_ok hR3).2 m3 (List.mem_of_getElem? hm3)).1
        have ltb' : b' < wr.heap.size := Nat.lt_of_lt_of_le hb'.2 hZ8
        have hki : (j : Int) < L2.length := by omega
        have hbx := (Below.refl wr.heap.size wr).alloc (Nat.le_refl _) (.cells #[.int .i64 m3.id, .int .u32 y, .int .i64 z] 26)
        have hqx := Blk.new wr 26 #[.int .i64 m3.id, .int .u32 y, .int .i64 z]
        have hS9 := hS8.below hbx fun i q => Nat.lt_of_lt_of_le q.2 hZ8
        go_upto_region 19 with (fail)
        clear q0 q1 q2
        generalize wr.alloc (.cells #[.int .i64 m3.id, .int .u32 y, .int .i64 z] 26) = w8 at *
        have s0 : w8.cell? ⟨wr.heap.size, 0, none⟩ = some (.int .i64 m3.id) := hqx.cellv 0 rfl
        have hB9 := hB8.trans (hbx.mono hz8)
        have hzx := hbx.size
        have hR4 := (rel_mark hR3 m3.id false).2
        rw [mark_at hR3.2.1 hm3] at hR4
        have hids4 : (L3.set j { m3 with up := false }).map Mem.id = L2.map Mem.id := by
          rw [← hids, List.map_set]
          apply List.ext_getElem?
          intro q
          rw [List.getElem?_set]
          split
          · rename_i hq; subst hq; rw [List.getElem?_map, hm3]; simp [show j < L3.length by omega]
          · rfl
        have hdn4 : ∀ q m, q < j + 1 → (L3.set j { m3 with up := false })[q]? = some m → m.up = false := by
          intro q m hq hm
          rw [List.getElem?_set] at hm
          split at hm
          · rename_i e
            simp at hm
            rw [← hm.2]
          · exact hdn q m (by omega) hm
        replace hids4 := Lib.hid hids4
        replace hdn4 := Lib.hid hdn4
        replace hdn := Lib.hid hdn
        replace hids := Lib.hid hids
        go_wp2_with (go_at_call 23; refine (pMarkS w8 g b pc M3 (hP8.nx hbx) m3.id (by omega) (by omega) false).mono ?_; rintro e w9 ⟨rfl, hP9, hg9⟩)
        exact ⟨⟨j + 1, _, _, by omega, by go_num, hP9, hR4, hids4.out, hdn4.out, below_own hB9 hg9 hB9.size hbb, hS9.grown hg9 (fun i q => ⟨by omega, fun e => by injection e with e; omega⟩), Nat.le_trans hZ8 (Nat.le_trans hzx hg9.size)⟩, by simp [intOf]; omega⟩
      · obtain rfl : j = L2.length := by omega
        have hall : ∀ m ∈ L3, m.up = false := by
          intro m hm
          obtain ⟨q, hq, e⟩ := List.getElem_of_mem hm
          exact hdn q m (by omega) (by rw [List.getElem?_eq_getElem hq, e])
        have c1 := fun (w : World) (h : PoolIn w g b pc M3) => pQuorate w g b pc M3 h hR3.2.2
        have c2 := fun (w : World) (h : PoolIn w g b pc M3) => pHealthy w g b pc M3 h hR3.2.2
        have c3 := fun (w : World) (h : PoolIn w g b pc M3) => pEligible w g b pc M3 L3 h hR3.2.2 hR3.1 hR3.2.1
        rw [rel_sum hR3 soUp, down_sum hall] at c1 c2
        simp only [quo_zero] at c1
        rw [down_use hall] at c3
        clear hdn hids hall
        go_wp2_with (first
          | (go_at_call 27; refine (c1 wr hP8).mono ?_; rintro e w8 ⟨rfl, hb8⟩; have hB9 := hB8.trans (hb8.mono hz8); have hP9 := hP8.nx hb8)
          | (go_at_call 29; refine (c2 w8 hP9).mono ?_; rintro e w9 ⟨rfl, hb9⟩; have hBa := hB9.trans (hb9.mono hB9.size); have hPa := hP9.nx hb9)
          | (go_at_call 30; refine (c3 w9 hPa).mono ?_; rintro e wa ⟨v, rfl, hv, hba⟩; obtain ⟨UA, uc, rfl, _, _, _⟩ := hv.seen (Nat.le_refl _); have hBb := hBa.trans (hba.mono hBa.size))
          | (go_at_call 18; refine (lives25_any wa).mono ?_; rintro e wb ⟨rfl, hbb'⟩))
        go_ret
        exact ⟨rfl, hBb.trans (hbb'.mono hBb.size)⟩
end Go.Proofs.Ytejgekoinbdhjaa
