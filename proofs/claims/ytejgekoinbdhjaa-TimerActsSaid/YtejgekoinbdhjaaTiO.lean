/- timer: a table in plain terms: New, Arm, Tick; the very same numbers; lives. -/
import Derived.Test.YtejgekoinbdhjaaTiN
namespace Go.Proofs.Ytejgekoinbdhjaa
set_option linter.unusedVariables false
open Go Go.RowKit Go.Maps

/-- a table that was made. -/
theorem newX (w : World) (mo : Int) (h1 : 1 ≤ mo) (h2 : mo ≤ 1024) :
    Calls Try.prog 53 #[.int .i64 mo] w fun e w' => ∃ g X, e = .returned (.pointer (some ⟨g, 0, none⟩)) ∧ TabX w' X g mo 0 0 [] ∧ (∀ k, X k → w.heap.size ≤ k) ∧ Below w.heap.size w w' := by
  refine (newT_in w mo h1 h2).mono ?_
  rintro e w' ⟨g, b, rfl, hT, hg, hb, hB⟩
  exact ⟨g, _, rfl, TabX.made hT ⟨h1, h2⟩, fun k hk => by rcases hk with rfl | rfl <;> assumption, hB⟩
theorem tickX {w : World} {X : Nat → Prop} {g : Nat} {mo no co : Int} {M : List Slo} (h : TabX w X g mo no co M) (h0 : 0 ≤ no) (hno : no < 1099511627776) (hco : co ≤ 1000000) :
    Calls Try.prog 55 #[.pointer (some ⟨g, 0, none⟩)] w fun e w' => ∃ lv, e = .returned lv ∧ Rows intK w' w.heap.size w.heap.size 3 lv ((M.filter (isAt (no + 1))).map Slo.id) ∧ TabX w' X g mo (no + 1) co (M.filter (notAt (no + 1))) ∧ Chg w w' X := by
  obtain ⟨b, v, A, H, hT, hG, hX, hlt⟩ := h
  refine (tickV w g b mo no co v M A H hT hG h0 hno hco).mono ?_
  rintro e w' ⟨lv, v', A', H', rfl, hlv, hT', hG', hv', hC⟩
  refine ⟨lv, rfl, hlv, ⟨b, v', A', H', hT', hG', fun k hk => hX k (by rw [← hv']; exact hk), fun k hk => Nat.lt_of_lt_of_le (hlt k hk) hC.size⟩, hC.mono fun i _ hi => hX i hi⟩
theorem GoodT.armed {mo no co id n : Int} {M A H : List Slo} (h : GoodT mo no co M A H) (hid : 0 ≤ id ∧ id < mo) (hn : 1 ≤ n) (hno : 0 ≤ no ∧ no < 1099511627776) (hnew : ∀ s ∈ M, s.id ≠ id) (hroom : co + 1 ≤ 4 * mo + 64) :
    GoodT mo no (co + 1) (M ++ [⟨id, addT no n, co + 1⟩]) (A ++ [⟨id, addT no n, co + 1⟩]) (upL H.length (H ++ [⟨id, addT no n, co + 1⟩]) H.length) := by
  have hod : ∀ s ∈ M, 0 < s.od ∧ s.od ≤ co := fun s hs => by
    have := h.rng s (h.held.2 s (h.perm.mem_iff.2 hs))
    unfold SloIn at this
    omega
  have hf := h.few
  have hco := h.hco
  refine ⟨h.hmo, by omega, h.perm.append_right _, ?_, ?_, ?_, ?_, ⟨arm_heap _ h.held.1, ?_⟩, ?_⟩
  · rw [List.pairwise_append]
    exact ⟨h.asc, by simp, fun a ha b hb => by rw [List.mem_singleton] at hb; subst hb; have := hod a ha; show a.od < co + 1; omega⟩
  · rw [List.pairwise_append]
    exact ⟨h.ids, by simp, fun a ha b hb => by rw [List.mem_singleton] at hb; subst hb; exact hnew a ha⟩
  · intro s hs
    rcases List.mem_append.1 hs with hs | hs
    · exact h.late s hs
    · rw [List.mem_singleton] at hs
      subst hs
      show no < addT no n
      unfold addT
      omega
  · intro s hs
    rw [up_mem] at hs
    rcases List.mem_append.1 hs with hs | hs
    · have := h.rng s hs
      unfold SloIn at *
      omega
    · rw [List.mem_singleton] at hs
      subst hs
      exact ⟨hid.1, hid.2, by show 0 < co + 1; omega, Int.le_refl _⟩
  · intro a ha
    rw [up_mem]
    rcases List.mem_append.1 ha with ha | ha
    · exact List.mem_append_left _ (h.held.2 a ha)
    · exact List.mem_append_right _ ha
  · rw [upL_len, List.length_append]
    simp only [List.length_singleton]
    omega
theorem armNewX {w : World} {X : Nat → Prop} {g : Nat} {mo no co : Int} {M : List Slo} (h : TabX w X g mo no co M) (id n : Int) (hid : 0 ≤ id ∧ id < mo) (hn : 1 ≤ n) (hno : 0 ≤ no ∧ no < 1099511627776) (hnew : ∀ s ∈ M, s.id ≠ id) (hroom : co + 1 ≤ 4 * mo + 64) :
    Calls Try.prog 54 #[.pointer (some ⟨g, 0, none⟩), .int .i64 id, .int .i64 n] w fun e w' => e = .returned (.int .i64 0) ∧ TabX w' (fun k => X k ∨ (w.heap.size ≤ k ∧ k < w'.heap.size)) g mo no (co + 1) (M ++ [⟨id, addT no n, co + 1⟩]) ∧ Chg w w' X := by
  obtain ⟨b, v, A, H, hT, hG, hX, hlt⟩ := h
  have hmo := hG.hmo
  have hf := hG.few
  have hco := hG.hco
  refine (arm_any w g b mo no co v A H id n hT hid.1 hid.2 hn hmo.2 ⟨hco, by omega⟩ (by omega) _ (putT_new b id (addT no n) (co + 1) A (by omega) fun a ha => hnew a (hG.perm.mem_iff.1 ha))).mono ?_
  rintro e w' ⟨v', rfl, hT', hC, hv'⟩
  have hz := hC.size
  refine ⟨rfl, ⟨b, v', _, _, hT', hG.armed hid hn hno hnew hroom, fun k hk => ?_, fun k hk => ?_⟩, hC.mono fun i _ hi => hX i hi⟩
  · by_cases hkw : k < w.heap.size
    · refine .inl ?_
      rcases hk with q | q | q
      · exact hX k (.inl q)
      · exact hX k (.inr (.inl q))
      · exact hX k (hv' k hkw q)
    · refine .inr ⟨by omega, ?_⟩
      rcases hk with q | q | q
      · have := hT.ltg; omega
      · have := hT.ltb; omega
      · exact (hT'.row.1.lt k q).2
  · rcases hk with q | q
    · exact Nat.lt_of_lt_of_le (hlt k q) hz
    · exact q.2
theorem take_next {α : Type} {xs ys : List α} {k : Nat} {a : α} (h : xs.take k = ys.take k) (h1 : xs[k]? = some a) (h2 : ys[k]? = some a) : xs.take (k + 1) = ys.take (k + 1) := by
  rw [List.take_add_one, List.take_add_one, h, h1, h2]
set_option maxRecDepth 100000 in
set_option maxHeartbeats 4000000 in
theorem ints13_any (w : World) (S S' : Nat → Prop) (A : Option Addr) (n c : Nat) (xs : List Int) (A' : Option Addr) (n' c' : Nat) (ys : List Int) (hx : Seen intK w S A n xs) (hy : Seen intK w S' A' n' ys) (hS : ∀ b, S b → b < w.heap.size) (hS' : ∀ b, S' b → b < w.heap.size) (hn : n ≤ 100000000) :
    Calls Try.prog 133 #[.slice A n c, .slice A' n' c'] w fun e w' => e = .returned (.bool (decide (xs = ys))) ∧ Below w.heap.size w w' := by
  have hl := Lib.hid hx.1
  have hl' := Lib.hid hy.1
  go_enter Try.func133, Try.ntmps133
  by_cases hne : n ≠ n'
  · have hb : ((n : Int) != n') = true := by rw [bne_iff_ne]; omega
    have e := Lib.hid (show decide (xs = ys) = false by rw [decide_eq_false_iff_not]; intro e; rw [e] at hl; exact hne (hl.out.symm.trans hl'.out))
    go_wp2_with fail
    go_ret
    exact ⟨ret_bool e.out.symm, Below.refl _ _⟩
  have hnn : n = n' := by omega
  subst hnn
  have hb : ((n : Int) != n) = false := by simp
  go_wp2_with fail
  go_loopw [5, 13] (fun _ i wr => ∃ k : Nat, k ≤ n ∧ i = .int .i64 (k : Int) ∧ xs.take k = ys.take k ∧ Below w.heap.size w wr) (fun _ i _ => n - (intOf i).toNat)
  case atStart => exact ⟨0, Nat.zero_le _, rfl, rfl, Below.refl _ _⟩
  case round =>
  obtain ⟨k, hk, rfl, hkey, hB⟩ := hrel
  replace hkey := Lib.hid hkey
  have hz := hB.size
  by_cases hlt : k < n
  · obtain ⟨b, off, x, rfl, hb1, hxk, c0⟩ := int_cell (hx.below hB hS) hlt
    obtain ⟨b', off', y, rfl, hb2, hyk, d0⟩ := int_cell (hy.below hB hS') hlt
    have lb1 : b < wr.heap.size := Nat.lt_of_lt_of_le (hS _ hb1) hz
    have lb2 : b' < wr.heap.size := Nat.lt_of_lt_of_le (hS' _ hb2) hz
    have hki : (k : Int) < n := by omega
    by_cases he : x = y
    · subst he
      have e := Lib.hid (take_next hkey.out hxk hyk)
      have hbb : (x != x) = false := by simp
      go_wp2_with fail
      -- region 6: 0 1 2 3 4 5 6 7 8
      try refine wp_region_noPanic ?_
      have hs1r : Below wr.heap.size wr wr.drew := (Below.refl _ _).drew
      refine wp_region_held_drew (S := fun w' => Below wr.heap.size wr w') (by kernel_rfl) hs1r (fun _ => ?_)
      (refine held_takeA 0 (by rfl) ?_ (by kernel_rfl) (fun _ _ _ h => h) hs1r ?_ ?_; rotate_left; (focus (intro wq hSw; have hrd : ∀ b o, b < wr.heap.size → wq.cell? ⟨b, o, none⟩ = wr.cell? ⟨b, o, none⟩ := (fun b o h => hSw.cell (p := ⟨b, o, none⟩) h); go_simp; try with_reducible rfl; done)); try simp only [Act.put, List.setIfInBounds_toArray, List.set_cons_zero, List.set_cons_succ])
      (refine held_takeA 1 (by rfl) ?_ (by kernel_rfl) (fun _ _ _ h => h) hs1r ?_ ?_; rotate_left; (focus (intro wq hSw; have hrd : ∀ b o, b < wr.heap.size → wq.cell? ⟨b, o, none⟩ = wr.cell? ⟨b, o, none⟩ := (fun b o h => hSw.cell (p := ⟨b, o, none⟩) h); go_simp; try with_reducible rfl; done)); try simp only [Act.put, List.setIfInBounds_toArray, List.set_cons_zero, List.set_cons_succ])
      (refine held_takeA 2 (by rfl) ?_ (by kernel_rfl) (fun _ _ _ h => h) hs1r ?_ ?_; rotate_left; (focus (intro wq hSw; have hrd : ∀ b o, b < wr.heap.size → wq.cell? ⟨b, o, none⟩ = wr.cell? ⟨b, o, none⟩ := (fun b o h => hSw.cell (p := ⟨b, o, none⟩) h); go_simp; try with_reducible rfl; done)); try simp only [Act.put, List.setIfInBounds_toArray, List.set_cons_zero, List.set_cons_succ])
      (refine held_takeA 3 (by rfl) ?_ (by kernel_rfl) (fun _ _ _ h => h) hs1r ?_ ?_; rotate_left; (focus (intro wq hSw; have hrd : ∀ b o, b < wr.heap.size → wq.cell? ⟨b, o, none⟩ = wr.cell? ⟨b, o, none⟩ := (fun b o h => hSw.cell (p := ⟨b, o, none⟩) h); go_simp; try with_reducible rfl; done)); try simp only [Act.put, List.setIfInBounds_toArray, List.set_cons_zero, List.set_cons_succ])
      (refine held_takeA 4 (by rfl) ?_ (by kernel_rfl) (fun _ _ _ h => h) hs1r ?_ ?_; rotate_left; (focus (intro wq hSw; have hrd : ∀ b o, b < wr.heap.size → wq.cell? ⟨b, o, none⟩ = wr.cell? ⟨b, o, none⟩ := (fun b o h => hSw.cell (p := ⟨b, o, none⟩) h); go_simp; try with_reducible rfl; done)); try simp only [Act.put, List.setIfInBounds_toArray, List.set_cons_zero, List.set_cons_succ])
      (refine held_takeA 5 (by rfl) ?_ (by kernel_rfl) (fun _ _ _ h => h) hs1r ?_ ?_; rotate_left; (focus (intro wq hSw; have hrd : ∀ b o, b < wr.heap.size → wq.cell? ⟨b, o, none⟩ = wr.cell? ⟨b, o, none⟩ := (fun b o h => hSw.cell (p := ⟨b, o, none⟩) h); go_simp; try with_reducible rfl; done)); try simp only [Act.put, List.setIfInBounds_toArray, List.set_cons_zero, List.set_cons_succ])
      (refine held_takeA 6 (by rfl) ?_ (by kernel_rfl) (fun _ _ _ h => h) hs1r ?_ ?_; rotate_left; (focus (intro wq hSw; have hrd : ∀ b o, b < wr.heap.size → wq.cell? ⟨b, o, none⟩ = wr.cell? ⟨b, o, none⟩ := (fun b o h => hSw.cell (p := ⟨b, o, none⟩) h); go_simp; try with_reducible rfl; done)); try simp only [Act.put, List.setIfInBounds_toArray, List.set_cons_zero, List.set_cons_succ])
      (refine held_takeA 7 (by rfl) ?_ (by kernel_rfl) (fun _ _ _ h => h) hs1r ?_ ?_; rotate_left; (focus (intro wq hSw; have hrd : ∀ b o, b < wr.heap.size → wq.cell? ⟨b, o, none⟩ = wr.cell? ⟨b, o, none⟩ := (fun b o h => hSw.cell (p := ⟨b, o, none⟩) h); go_simp; try with_reducible rfl; done)); try simp only [Act.put, List.setIfInBounds_toArray, List.set_cons_zero, List.set_cons_succ])
      (refine held_takeA 8 (by rfl) ?_ (by kernel_rfl) (fun _ _ _ h => h) hs1r ?_ ?_; rotate_left; (focus (intro wq hSw; have hrd : ∀ b o, b < wr.heap.size → wq.cell? ⟨b, o, none⟩ = wr.cell? ⟨b, o, none⟩ := (fun b o h => hSw.cell (p := ⟨b, o, none⟩) h); go_simp; try with_reducible rfl; done)); try simp only [Act.put, List.setIfInBounds_toArray, List.set_cons_zero, List.set_cons_succ])
      refine wpAnyH_done (by kernel_rfl) ?_ _
      try refine NoPanic.normal ?_
      go_wp2_with fail
      exact ⟨⟨k + 1, by omega, by go_num, e.out, hB.drew⟩, by simp [intOf]; omega⟩
    · have e := Lib.hid (show decide (xs = ys) = false by rw [decide_eq_false_iff_not]; intro e; rw [e, hyk] at hxk; injection hxk with hxk; exact he hxk.symm)
      have hbb : (x != y) = true := by simpa using he
      replace he := Lib.hid he
      go_wp2_with fail
      -- region 6: 0 1 2 3 4 5 6 7 8
      try refine wp_region_noPanic ?_
      have hs2r : Below wr.heap.size wr wr.drew := (Below.refl _ _).drew
      refine wp_region_held_drew (S := fun w' => Below wr.heap.size wr w') (by kernel_rfl) hs2r (fun _ => ?_)
      (refine held_takeA 0 (by rfl) ?_ (by kernel_rfl) (fun _ _ _ h => h) hs2r ?_ ?_; rotate_left; (focus (intro wq hSw; have hrd : ∀ b o, b < wr.heap.size → wq.cell? ⟨b, o, none⟩ = wr.cell? ⟨b, o, none⟩ := (fun b o h => hSw.cell (p := ⟨b, o, none⟩) h); go_simp; try with_reducible rfl; done)); try simp only [Act.put, List.setIfInBounds_toArray, List.set_cons_zero, List.set_cons_succ])
      (refine held_takeA 1 (by rfl) ?_ (by kernel_rfl) (fun _ _ _ h => h) hs2r ?_ ?_; rotate_left; (focus (intro wq hSw; have hrd : ∀ b o, b < wr.heap.size → wq.cell? ⟨b, o, none⟩ = wr.cell? ⟨b, o, none⟩ := (fun b o h => hSw.cell (p := ⟨b, o, none⟩) h); go_simp; try with_reducible rfl; done)); try simp only [Act.put, List.setIfInBounds_toArray, List.set_cons_zero, List.set_cons_succ])
      (refine held_takeA 2 (by rfl) ?_ (by kernel_rfl) (fun _ _ _ h => h) hs2r ?_ ?_; rotate_left; (focus (intro wq hSw; have hrd : ∀ b o, b < wr.heap.size → wq.cell? ⟨b, o, none⟩ = wr.cell? ⟨b, o, none⟩ := (fun b o h => hSw.cell (p := ⟨b, o, none⟩) h); go_simp; try with_reducible rfl; done)); try simp only [Act.put, List.setIfInBounds_toArray, List.set_cons_zero, List.set_cons_succ])
      (refine held_takeA 3 (by rfl) ?_ (by kernel_rfl) (fun _ _ _ h => h) hs2r ?_ ?_; rotate_left; (focus (intro wq hSw; have hrd : ∀ b o, b < wr.heap.size → wq.cell? ⟨b, o, none⟩ = wr.cell? ⟨b, o, none⟩ := (fun b o h => hSw.cell (p := ⟨b, o, none⟩) h); go_simp; try with_reducible rfl; done)); try simp only [Act.put, List.setIfInBounds_toArray, List.set_cons_zero, List.set_cons_succ])
      (refine held_takeA 4 (by rfl) ?_ (by kernel_rfl) (fun _ _ _ h => h) hs2r ?_ ?_; rotate_left; (focus (intro wq hSw; have hrd : ∀ b o, b < wr.heap.size → wq.cell? ⟨b, o, none⟩ = wr.cell? ⟨b, o, none⟩ := (fun b o h => hSw.cell (p := ⟨b, o, none⟩) h); go_simp; try with_reducible rfl; done)); try simp only [Act.put, List.setIfInBounds_toArray, List.set_cons_zero, List.set_cons_succ])
      (refine held_takeA 5 (by rfl) ?_ (by kernel_rfl) (fun _ _ _ h => h) hs2r ?_ ?_; rotate_left; (focus (intro wq hSw; have hrd : ∀ b o, b < wr.heap.size → wq.cell? ⟨b, o, none⟩ = wr.cell? ⟨b, o, none⟩ := (fun b o h => hSw.cell (p := ⟨b, o, none⟩) h); go_simp; try with_reducible rfl; done)); try simp only [Act.put, List.setIfInBounds_toArray, List.set_cons_zero, List.set_cons_succ])
      (refine held_takeA 6 (by rfl) ?_ (by kernel_rfl) (fun _ _ _ h => h) hs2r ?_ ?_; rotate_left; (focus (intro wq hSw; have hrd : ∀ b o, b < wr.heap.size → wq.cell? ⟨b, o, none⟩ = wr.cell? ⟨b, o, none⟩ := (fun b o h => hSw.cell (p := ⟨b, o, none⟩) h); go_simp; try with_reducible rfl; done)); try simp only [Act.put, List.setIfInBounds_toArray, List.set_cons_zero, List.set_cons_succ])
      (refine held_takeA 7 (by rfl) ?_ (by kernel_rfl) (fun _ _ _ h => h) hs2r ?_ ?_; rotate_left; (focus (intro wq hSw; have hrd : ∀ b o, b < wr.heap.size → wq.cell? ⟨b, o, none⟩ = wr.cell? ⟨b, o, none⟩ := (fun b o h => hSw.cell (p := ⟨b, o, none⟩) h); go_simp; try with_reducible rfl; done)); try simp only [Act.put, List.setIfInBounds_toArray, List.set_cons_zero, List.set_cons_succ])
      (refine held_takeA 8 (by rfl) ?_ (by kernel_rfl) (fun _ _ _ h => h) hs2r ?_ ?_; rotate_left; (focus (intro wq hSw; have hrd : ∀ b o, b < wr.heap.size → wq.cell? ⟨b, o, none⟩ = wr.cell? ⟨b, o, none⟩ := (fun b o h => hSw.cell (p := ⟨b, o, none⟩) h); go_simp; try with_reducible rfl; done)); try simp only [Act.put, List.setIfInBounds_toArray, List.set_cons_zero, List.set_cons_succ])
      refine wpAnyH_done (by kernel_rfl) ?_ _
      try refine NoPanic.normal ?_
      go_wp2_with fail
      go_ret
      exact ⟨ret_bool e.out.symm, hB.drew⟩
  · obtain rfl : k = n := by omega
    have e : decide (xs = ys) = true := by
      have := hkey.out
      rw [List.take_of_length_le (by have := hl.out; omega), List.take_of_length_le (by have := hl'.out; omega)] at this
      simpa using this
    replace e := Lib.hid e
    go_wp2_with fail
    go_ret
    exact ⟨ret_bool e.out.symm, hB⟩
end Go.Proofs.Ytejgekoinbdhjaa
