/- probe: the document's scheduler: Tick. -/
import Derived.Test.YtejgekoinbdhjaaPrO
namespace Go.Proofs.Ytejgekoinbdhjaa
set_option linter.unusedVariables false
open Go Go.RowKit Go.Maps

/-- the first k of L have been turned to P. -/
theorem mid_get {L P : List Pr} {k : Nat} {r : Pr} (hP : P.length = k) (hr : L[k]? = some r) : (P ++ L.drop k)[k]? = some r := by
  rw [List.getElem?_append_right (by omega), hP, Nat.sub_self, List.getElem?_drop]
  exact hr
theorem mid_set {L P : List Pr} {k : Nat} {r e : Pr} (hP : P.length = k) (hr : L[k]? = some r) : (P ++ L.drop k).set k e = (P ++ [e]) ++ L.drop (k + 1) := by
  obtain ⟨hl, rfl⟩ := List.getElem?_eq_some_iff.1 hr
  rw [List.set_append_right (h := by omega), hP, Nat.sub_self, List.drop_eq_getElem_cons hl, List.set_cons_zero, List.append_assoc]
  rfl
theorem mid_same {L P : List Pr} {k : Nat} {r : Pr} (hr : L[k]? = some r) : P ++ L.drop k = (P ++ [r]) ++ L.drop (k + 1) := by
  obtain ⟨hl, rfl⟩ := List.getElem?_eq_some_iff.1 hr
  rw [List.drop_eq_getElem_cons hl, List.append_assoc]
  rfl
theorem ask_len (no ev : Int) (L : List Pr) (sq : Int) : (askAll no ev sq L).1.length = L.length := by
  have := congrArg List.length (ask_ids no ev L sq)
  rwa [List.length_map, List.length_map] at this
theorem ask_out (no ev : Int) : ∀ (L : List Pr) (sq : Int), (askAll no ev sq L).2.2.length ≤ L.length
  | [], _ => by simp [askAll]
  | r :: L, sq => by
    unfold askAll
    have h1 := ask_out no ev L (sq + 1)
    have h2 := ask_out no ev L sq
    split <;> simp only [List.length_cons] <;> omega
def askR (no ev sq : Int) (r : Pr) : Pr := { r with sq := sq + 1, at_ := no, nx := no + ev }
theorem ask_snoc (no ev : Int) (r : Pr) : ∀ (L : List Pr) (sq : Int), askAll no ev sq (L ++ [r]) =
    if r.nx = no then ((askAll no ev sq L).1 ++ [askR no ev (askAll no ev sq L).2.1 r], (askAll no ev sq L).2.1 + 1, (askAll no ev sq L).2.2 ++ [(r.id, (askAll no ev sq L).2.1 + 1)])
    else ((askAll no ev sq L).1 ++ [r], (askAll no ev sq L).2.1, (askAll no ev sq L).2.2)
  | [], sq => by
    unfold askR
    simp only [List.nil_append, askAll]
  | a :: L, sq => by
    rw [List.cons_append]
    unfold askAll
    by_cases ha : a.nx = no
    · simp only [if_pos ha, ask_snoc no ev r L (sq + 1)]
      split <;> rfl
    · simp only [if_neg ha, ask_snoc no ev r L sq]
      split <;> rfl
theorem rp_row {w : World} {lo base q n c : Nat} {M : List Pr} {k : Nat} {r : Pr} (h : Rows rpK w lo base 250 (.slice (some ⟨q, 0, none⟩) n c) M) (hn : n = M.length) (hk : M[k]? = some r) :
    w.cell? ⟨q, k * 4, none⟩ = some (.int .i64 r.id) ∧ w.cell? ⟨q, k * 4 + 1, none⟩ = some (.int .i64 r.nx) ∧ w.cell? ⟨q, k * 4 + 2, none⟩ = some (.int .i64 r.sq) ∧ w.cell? ⟨q, k * 4 + 3, none⟩ = some (.int .i64 r.at_) ∧ (∀ j, w.frozen? ⟨q, j, none⟩ = false) ∧ base ≤ q ∧ q < w.heap.size := by
  have hkl := (List.getElem?_eq_some_iff.1 hk).1
  have ho := h.1
  rw [← hn] at ho
  have cell : ∀ i v, i < 4 → (rpK.cel r)[i]? = some v → w.cell? ⟨q, k * 4 + i, none⟩ = some v := fun i v hi hv => by
    rw [ho.cell (k * 4 + i) (by show k * 4 + i < n * 4; omega)]
    exact (flat_get rpK M k i r hk (by show i < 4; exact hi)).trans hv
  exact ⟨cell 0 _ (by omega) rfl, cell 1 _ (by omega) rfl, cell 2 _ (by omega) rfl, cell 3 _ (by omega) rfl, fun j => ho.free j, ho.lt q rfl⟩
theorem own_ne_own {w : World} {base base' size size' n n' : Nat} {et et' : TypeId} {v v' : Value} {xs xs' : List Value} (h : Own1 w base et size v n xs) (k : Own1 w base' et' size' v' n' xs') (hne : et ≠ et') : ∀ j, v.ownBlock = some j → v'.ownBlock ≠ some j := fun j e e' => by
  obtain ⟨vs, fz, q⟩ := own_cells h e
  obtain ⟨vs', fz', q'⟩ := own_cells k e'
  rw [q] at q'
  injection q' with q'
  injection q' with _ q' _
  exact hne q'
theorem row_chg {α : Type} {R : RK α} {w w' : World} {lo base : Nat} {et : TypeId} {v : Value} {l : List α} {X : Nat → Prop} (h : Rows R w lo base et v l) (hok : ∀ a w S, R.ok w S a) (hc : Chg w w' X) (hX : ∀ k, v.ownBlock = some k → ¬ X k) : Rows R w' lo base et v l :=
  ⟨hc.own h.1 hX, fun a ha => hok _ _ _⟩
set_option maxRecDepth 100000 in
set_option maxHeartbeats 16000000 in
theorem refTick24 (w : World) (Y : Nat → Prop) (d : Nat) (ev pa no sq : Int) (L : List Pr) (h : RefP w Y d ev pa no sq L) (hn : L.length ≤ 100000) (h0 : 0 ≤ no) (hno : no < 1099511627776) (hev : 0 ≤ ev ∧ ev ≤ 10000) (hsq : 0 ≤ sq ∧ sq ≤ 1000000000) (hrows : ∀ r ∈ L, RowIn no sq r) :
    Calls Try.prog 163 #[.pointer (some ⟨d, 0, none⟩)] w fun e w' => ∃ v1 v2, e = .returned (.tuple #[v2, v1]) ∧ Rows prK w' w.heap.size w.heap.size 225 v1 (lostOf (no + 1) pa L) ∧ Rows prK w' w.heap.size w.heap.size 225 v2 (askAll (no + 1) ev sq (tick1 no pa L)).2.2 ∧ ∃ Y', RefP w' Y' d ev pa (no + 1) (askAll (no + 1) ev sq (tick1 no pa L)).2.1 (askAll (no + 1) ev sq (tick1 no pa L)).1 ∧ (∀ k, Y' k → Y k ∨ w.heap.size ≤ k) ∧ (∀ k, v1.ownBlock = some k ∨ v2.ownBlock = some k → ¬ Y' k) ∧ Chg w w' Y := by
  obtain ⟨v, h1, h2, h3, h4, h5⟩ := h
  obtain ⟨A, c, rfl, hnc, hcm, hS⟩ := h2.seen (Nat.le_refl _)
  have c0 : w.cell? ⟨d, 0, none⟩ = some (.int .i64 ev) := h1.cellv 0 rfl
  have c1 : w.cell? ⟨d, 1, none⟩ = some (.int .i64 pa) := h1.cellv 1 rfl
  have c2 : w.cell? ⟨d, 2, none⟩ = some (.int .i64 no) := h1.cellv 2 rfl
  have c3 : w.cell? ⟨d, 3, none⟩ = some (.int .i64 sq) := h1.cellv 3 rfl
  have c4 : w.cell? ⟨d, 4, none⟩ = some (.slice A L.length c) := h1.cellv 4 rfl
  have ltd := h1.lt
  have hS0 := hS.more (S' := fun b => b < w.heap.size) fun b q => q.2
  obtain ⟨n, hn2⟩ : ∃ n, n = L.length := ⟨_, rfl⟩
  rw [← hn2] at c4 hS0 hn hnc h1 h2 h3 h4
  replace hn2 := Lib.hid hn2
  clear hS
  have d1 : decide (1099511627776 ≤ no) = false := by simp; omega
  have kw : IntKind.i64.wrap (no + 1) = no + 1 := IntWalk.i64_in _ (by omega)
  have gf := h1.frozen 2
  have hYd := h4 d (.inl rfl)
  obtain ⟨hq1, hg1⟩ := blk_store h1 2 (.int .i64 (no + 1))
  replace hq1 := Lib.hid hq1
  replace hg1 := Lib.hid hg1
  have hol := h2.1.lt
  go_enter Try.func163, Try.ntmps163
  go_upto_region 5 with (fail)
  have hC1 : Chg w (w.setCell ⟨d, 2, none⟩ (.int .i64 (no + 1))) (fun k => k = d) := Chg.of_grown hg1.out rfl
  have hrow1 : Rows rpK (w.setCell ⟨d, 2, none⟩ (.int .i64 (no + 1))) 0 0 250 (.slice A n c) L := row_chg h2 (fun _ _ _ => trivial) hC1 fun k e q => h3 (q ▸ e)
  replace hq1 : Blk (w.setCell ⟨d, 2, none⟩ (.int .i64 (no + 1))) d 228 #[.int .i64 ev, .int .i64 pa, .int .i64 (no + 1), .int .i64 sq, .slice A n c] := hq1.out
  clear hg1 gf c0 c1 c2 c3 c4 hS0 h1 h2
  generalize w.setCell ⟨d, 2, none⟩ (.int .i64 (no + 1)) = w1 at *
  obtain ⟨A', c', e', -, -, hS1⟩ := hrow1.seen (Nat.le_refl _)
  obtain rfl : A = A' := by injection e'
  clear e'
  rw [← hn2.out] at hS1
  have hz1 := hC1.size
  have c4 : w1.cell? ⟨d, 4, none⟩ = some (.slice A n c) := hq1.cellv 4 rfl
  have ltd1 := hq1.lt
  have hb2 := (Below.refl w1.heap.size w1).alloc (Nat.le_refl _) (.cells #[] 250)
  have hr0 := rp_lit w1
  have hS2 := hS1.below hb2 fun b q => q.2
  have hz2 := hb2.size
  go_upto_region 6 with (at_builtin; refine wpList_rows rp_ok rfl (.tmp 23) (.tmp 27) rfl hr0 rfl rfl hS2 (fun _ _ => trivial) (by unfold maxLen; simp; omega) (by simp; omega) hz2 ?_; intro v4 w4 hv4 hg4; rw [List.nil_append] at hv4; have hb4 := hb2.trans (hr0.below_app hg4 hz2); obtain ⟨A5, c5, e5, -⟩ := hv4.1.any; rw [← hn2.out] at e5; subst e5; have hq4 := hq1.below hb4 ltd1; have l4 := hq4.lt; have cc4 := hq4.cellv 4 rfl; have f4 := hq4.frozen 4)
  obtain ⟨hq5, hg5⟩ := blk_store hq4 4 (.slice A5 n c5)
  replace hq5 : Blk (w4.setCell ⟨d, 4, none⟩ (.slice A5 n c5)) d 228 #[.int .i64 ev, .int .i64 pa, .int .i64 (no + 1), .int .i64 sq, .slice A5 n c5] := hq5
  have hne5 := own_ne_blk hv4.1 hq4 (by decide)
  have hrow5 : Rows rpK (w4.setCell ⟨d, 4, none⟩ (.slice A5 n c5)) w.heap.size w.heap.size 250 (.slice A5 n c5) L := (show Rows rpK (w4.setCell ⟨d, 4, none⟩ (.slice A5 n c5)) w1.heap.size w1.heap.size 250 (.slice A5 n c5) L from ⟨hv4.1.kept hg5 (.inr hne5), fun _ _ => trivial⟩).less hz1 hz1
  have hC5 : Chg w (w4.setCell ⟨d, 4, none⟩ (.slice A5 n c5)) (fun k => k = d) := (hC1.trans (Chg.of_below (X := fun _ => False) hb4) (fun _ _ q => q.elim)).trans (Chg.of_grown (X := fun k => k = d) hg5 rfl) (fun _ _ q => q)
  clear hg5 hq4 l4 cc4 f4 hb4 hv4 hg4 hr0 hS2 hb2 hz2 c4 hS1 hrow1 hq1 hC1 hz1 ltd1
  generalize w4.setCell ⟨d, 4, none⟩ (.slice A5 n c5) = w5 at *
  have c4 : w5.cell? ⟨d, 4, none⟩ = some (.slice A5 n c5) := hq5.cellv 4 rfl
  have ltd5 := hq5.lt
  go_wp2_with fail
  go_loopw [5, 36] (fun lv i wr => ∃ k : Nat, k ≤ n ∧ i = .int .i64 (k : Int) ∧ Blk wr d 228 #[.int .i64 ev, .int .i64 pa, .int .i64 (no + 1), .int .i64 sq, .slice A5 n c5] ∧ Rows rpK wr w.heap.size w.heap.size 250 (.slice A5 n c5) ((L.take k).map (lostR (no + 1) pa) ++ L.drop k) ∧ Rows prK wr w.heap.size w.heap.size 225 lv (lostOf (no + 1) pa (L.take k)) ∧ Chg w wr (fun k => k = d)) (fun _ i _ => n - (intOf i).toNat)
  case atStart => exact ⟨0, Nat.zero_le _, rfl, hq5, hrow5, Rows.nil _ _ _ _, hC5⟩
  case round =>
  clear hq5 hrow5 hC5 c4 ltd5
  generalize wr = wo at *
  obtain ⟨k, hk, rfl, hq, hrow, hlv, hC⟩ := hrel
  have hz := hC.size
  have hlen1 : ((L.take k).map (lostR (no + 1) pa)).length = k := by rw [List.length_map, List.length_take]; have := hn2.out; omega
  have hlenl : (lostOf (no + 1) pa (L.take k)).length ≤ k := by unfold lostOf; rw [List.length_map]; exact Nat.le_trans (List.length_filter_le _ _) (by rw [List.length_take]; omega)
  have hlenr : n = ((L.take k).map (lostR (no + 1) pa) ++ L.drop k).length := by rw [List.length_append, hlen1, List.length_drop]; have := hn2.out; omega
  replace hlen1 := Lib.hid hlen1
  replace hlenr := Lib.hid hlenr
  by_cases hlt : k < n
  · obtain ⟨r, hrk⟩ : ∃ r, L[k]? = some r := ⟨_, List.getElem?_eq_getElem (by have := hn2.out; omega)⟩
    have hmk := mid_get hlen1.out hrk
    obtain ⟨q, cq, eq, hloq, hltq, -, -⟩ := hrow.1.form (by rw [← hlenr.out]; omega)
    rw [← hlenr.out] at eq
    injection eq with eq1 _ eq3
    subst eq1
    subst eq3
    obtain ⟨r0, r1, r2, r3, rf, -, -⟩ := rp_row hrow hlenr.out hmk
    have hrin := hrows r (List.mem_of_getElem? hrk)
    unfold RowIn at hrin
    have hki : (k : Int) < n := by omega
    have ltd := hq.lt
    have hdq : d ≠ q := fun e => own_ne_blk hrow.1 hq (by decide) (by rw [e]; rfl)
    have c1 : wo.cell? ⟨d, 1, none⟩ = some (.int .i64 pa) := hq.cellv 1 rfl
    have c2 : wo.cell? ⟨d, 2, none⟩ = some (.int .i64 (no + 1)) := hq.cellv 2 rfl
    have c4 : wo.cell? ⟨d, 4, none⟩ = some (.slice (some ⟨q, 0, none⟩) n c5) := hq.cellv 4 rfl
    have hbx := (Below.refl wo.heap.size wo).alloc (Nat.le_refl _) (.cells #[.int .i64 r.id, .int .i64 r.nx, .int .i64 r.sq, .int .i64 r.at_] 250)
    have hqx := Blk.new wo 250 #[.int .i64 r.id, .int .i64 r.nx, .int .i64 r.sq, .int .i64 r.at_]
    have hq3 := hq.below hbx ltd
    have hrow3 := hrow.below hbx
    have hlv3 := hlv.below hbx
    have hC3 := hC.trans (Chg.of_below (X := fun _ => False) hbx) (fun _ _ q => q.elim)
    go_upto_region 9 with (fail)
    clear r0 r1 r2 r3 rf c1 c2 c4
    generalize wo.alloc (.cells #[.int .i64 r.id, .int .i64 r.nx, .int .i64 r.sq, .int .i64 r.at_] 250) = w3 at *
    have s0 : w3.cell? ⟨wo.heap.size, 0, none⟩ = some (.int .i64 r.id) := hqx.cellv 0 rfl
    have s2 : w3.cell? ⟨wo.heap.size, 2, none⟩ = some (.int .i64 r.sq) := hqx.cellv 2 rfl
    have s3 : w3.cell? ⟨wo.heap.size, 3, none⟩ = some (.int .i64 r.at_) := hqx.cellv 3 rfl
    have lts := hqx.lt
    have ltd3 := hq3.lt
    have c1 : w3.cell? ⟨d, 1, none⟩ = some (.int .i64 pa) := hq3.cellv 1 rfl
    have c2 : w3.cell? ⟨d, 2, none⟩ = some (.int .i64 (no + 1)) := hq3.cellv 2 rfl
    have stay : ∀ (hg : goneB (no + 1) pa r = false), ((L.take (k + 1)).map (lostR (no + 1) pa) ++ L.drop (k + 1)) = ((L.take k).map (lostR (no + 1) pa) ++ L.drop k) ∧ lostOf (no + 1) pa (L.take (k + 1)) = lostOf (no + 1) pa (L.take k) := fun hg => by
      have e : L.take (k + 1) = L.take k ++ [r] := by rw [List.take_add_one, hrk]; rfl
      refine ⟨?_, ?_⟩
      · rw [e, List.map_append, mid_same hrk]
        show _ ++ [lostR (no + 1) pa r] ++ _ = _
        unfold lostR
        rw [hg]
        rfl
      · rw [e]; unfold lostOf; rw [List.filter_append, List.filter_cons_of_neg (by rw [hg]; simp)]; simp
    by_cases hs : 0 < r.sq
    rotate_left
    · have t1 : decide (0 < r.sq) = false := by simpa using hs
      have hv := Lib.hid (stay (by unfold goneB; simp [hs]))
      clear stay
      replace hs := Lib.hid hs
      replace hrk := Lib.hid hrk
      replace hmk := Lib.hid hmk
      -- region 9: 0 1 2 3 4 5 6 7 8 9 10 11 12 13 14 15 16
      try refine wp_region_noPanic ?_
      have hs1r : Below w3.heap.size w3 w3.drew := (Below.refl _ _).drew
      refine wp_region_held_drew (S := fun w' => Below w3.heap.size w3 w') (by kernel_rfl) hs1r (fun _ => ?_)
      (refine held_takeA 0 (by rfl) ?_ (by kernel_rfl) (fun _ _ _ h => h) hs1r ?_ ?_; rotate_left; (focus (intro wq hSw; have hrd : ∀ b o, b < w3.heap.size → wq.cell? ⟨b, o, none⟩ = w3.cell? ⟨b, o, none⟩ := (fun b o h => hSw.cell (p := ⟨b, o, none⟩) h); go_simp; try with_reducible rfl; done)); try simp only [Act.put, List.setIfInBounds_toArray, List.set_cons_zero, List.set_cons_succ])
      (refine held_takeA 1 (by rfl) ?_ (by kernel_rfl) (fun _ _ _ h => h) hs1r ?_ ?_; rotate_left; (focus (intro wq hSw; have hrd : ∀ b o, b < w3.heap.size → wq.cell? ⟨b, o, none⟩ = w3.cell? ⟨b, o, none⟩ := (fun b o h => hSw.cell (p := ⟨b, o, none⟩) h); go_simp; try with_reducible rfl; done)); try simp only [Act.put, List.setIfInBounds_toArray, List.set_cons_zero, List.set_cons_succ])
      (refine held_takeA 2 (by rfl) ?_ (by kernel_rfl) (fun _ _ _ h => h) hs1r ?_ ?_; rotate_left; (focus (intro wq hSw; have hrd : ∀ b o, b < w3.heap.size → wq.cell? ⟨b, o, none⟩ = w3.cell? ⟨b, o, none⟩ := (fun b o h => hSw.cell (p := ⟨b, o, none⟩) h); go_simp; try with_reducible rfl; done)); try simp only [Act.put, List.setIfInBounds_toArray, List.set_cons_zero, List.set_cons_succ])
      (refine held_takeA 3 (by rfl) ?_ (by kernel_rfl) (fun _ _ _ h => h) hs1r ?_ ?_; rotate_left; (focus (intro wq hSw; have hrd : ∀ b o, b < w3.heap.size → wq.cell? ⟨b, o, none⟩ = w3.cell? ⟨b, o, none⟩ := (fun b o h => hSw.cell (p := ⟨b, o, none⟩) h); go_simp; try with_reducible rfl; done)); try simp only [Act.put, List.setIfInBounds_toArray, List.set_cons_zero, List.set_cons_succ])
      (refine held_skipA 4 (by rfl) (by kernel_rfl) (fun _ _ _ h => h) hs1r ?_; try simp only [Act.put, List.setIfInBounds_toArray, List.set_cons_zero, List.set_cons_succ])
      (refine held_skipA 5 (by rfl) (by kernel_rfl) (fun _ _ _ h => h) hs1r ?_; try simp only [Act.put, List.setIfInBounds_toArray, List.set_cons_zero, List.set_cons_succ])
      (refine held_skipA 6 (by rfl) (by kernel_rfl) (fun _ _ _ h => h) hs1r ?_; try simp only [Act.put, List.setIfInBounds_toArray, List.set_cons_zero, List.set_cons_succ])
      (refine held_skipA 7 (by rfl) (by kernel_rfl) (fun _ _ _ h => h) hs1r ?_; try simp only [Act.put, List.setIfInBounds_toArray, List.set_cons_zero, List.set_cons_succ])
      (refine held_skipA 8 (by rfl) (by kernel_rfl) (fun _ _ _ h => h) hs1r ?_; try simp only [Act.put, List.setIfInBounds_toArray, List.set_cons_zero, List.set_cons_succ])
      (refine held_skipA 9 (by rfl) (by kernel_rfl) (fun _ _ _ h => h) hs1r ?_; try simp only [Act.put, List.setIfInBounds_toArray, List.set_cons_zero, List.set_cons_succ])
      (refine held_skipA 10 (by rfl) (by kernel_rfl) (fun _ _ _ h => h) hs1r ?_; try simp only [Act.put, List.setIfInBounds_toArray, List.set_cons_zero, List.set_cons_succ])
      (refine held_skipA 11 (by rfl) (by kernel_rfl) (fun _ _ _ h => h) hs1r ?_; try simp only [Act.put, List.setIfInBounds_toArray, List.set_cons_zero, List.set_cons_succ])
      (refine held_skipA 12 (by rfl) (by kernel_rfl) (fun _ _ _ h => h) hs1r ?_; try simp only [Act.put, List.setIfInBounds_toArray, List.set_cons_zero, List.set_cons_succ])
      (refine held_skipA 13 (by rfl) (by kernel_rfl) (fun _ _ _ h => h) hs1r ?_; try simp only [Act.put, List.setIfInBounds_toArray, List.set_cons_zero, List.set_cons_succ])
      (refine held_skipA 14 (by rfl) (by kernel_rfl) (fun _ _ _ h => h) hs1r ?_; try simp only [Act.put, List.setIfInBounds_toArray, List.set_cons_zero, List.set_cons_succ])
      (refine held_skipA 15 (by rfl) (by kernel_rfl) (fun _ _ _ h => h) hs1r ?_; try simp only [Act.put, List.setIfInBounds_toArray, List.set_cons_zero, List.set_cons_succ])
      (refine held_takeA 16 (by rfl) ?_ (by kernel_rfl) (fun _ _ _ h => h) hs1r ?_ ?_; rotate_left; (focus (intro wq hSw; have hrd : ∀ b o, b < w3.heap.size → wq.cell? ⟨b, o, none⟩ = w3.cell? ⟨b, o, none⟩ := (fun b o h => hSw.cell (p := ⟨b, o, none⟩) h); go_simp; try with_reducible rfl; done)); try simp only [Act.put, List.setIfInBounds_toArray, List.set_cons_zero, List.set_cons_succ])
      refine wpAnyH_done (by kernel_rfl) ?_ _
      try refine NoPanic.normal ?_
      go_wp2_with fail
      have hd3 : Below w3.heap.size w3 w3.drew := (Below.refl _ _).drew
      exact ⟨⟨k + 1, by omega, by go_num, hq3.below hd3 ltd3, by rw [hv.out.1]; exact hrow3.below hd3, by rw [hv.out.2]; exact hlv3.below hd3, hC3.trans (Chg.of_below (X := fun _ => False) hd3) (fun _ _ q => q.elim)⟩, by simp [intOf]; omega⟩
    have t1 : decide (0 < r.sq) = true := by simpa using hs
    have hat := hrin.2.2 hs
    have kw2 : IntKind.i64.wrap (no + 1 - r.at_) = no + 1 - r.at_ := IntWalk.i64_in _ (by omega)
    by_cases hp : pa ≤ no + 1 - r.at_
    rotate_left
    · have t2 : decide (pa ≤ no + 1 - r.at_) = false := by simpa using hp
      have hv := Lib.hid (stay (by unfold goneB; simp [hp]))
      clear stay
      replace hs := Lib.hid hs
      replace hp := Lib.hid hp
      replace hrk := Lib.hid hrk
      replace hmk := Lib.hid hmk
      -- region 9: 0 1 2 3 4 5 6 7 8 9 10 11 12 13 14 15 16
      try refine wp_region_noPanic ?_
      have hs2r : Below w3.heap.size w3 w3.drew := (Below.refl _ _).drew
      refine wp_region_held_drew (S := fun w' => Below w3.heap.size w3 w') (by kernel_rfl) hs2r (fun _ => ?_)
      (refine held_takeA 0 (by rfl) ?_ (by kernel_rfl) (fun _ _ _ h => h) hs2r ?_ ?_; rotate_left; (focus (intro wq hSw; have hrd : ∀ b o, b < w3.heap.size → wq.cell? ⟨b, o, none⟩ = w3.cell? ⟨b, o, none⟩ := (fun b o h => hSw.cell (p := ⟨b, o, none⟩) h); go_simp; try with_reducible rfl; done)); try simp only [Act.put, List.setIfInBounds_toArray, List.set_cons_zero, List.set_cons_succ])
      (refine held_takeA 1 (by rfl) ?_ (by kernel_rfl) (fun _ _ _ h => h) hs2r ?_ ?_; rotate_left; (focus (intro wq hSw; have hrd : ∀ b o, b < w3.heap.size → wq.cell? ⟨b, o, none⟩ = w3.cell? ⟨b, o, none⟩ := (fun b o h => hSw.cell (p := ⟨b, o, none⟩) h); go_simp; try with_reducible rfl; done)); try simp only [Act.put, List.setIfInBounds_toArray, List.set_cons_zero, List.set_cons_succ])
      (refine held_takeA 2 (by rfl) ?_ (by kernel_rfl) (fun _ _ _ h => h) hs2r ?_ ?_; rotate_left; (focus (intro wq hSw; have hrd : ∀ b o, b < w3.heap.size → wq.cell? ⟨b, o, none⟩ = w3.cell? ⟨b, o, none⟩ := (fun b o h => hSw.cell (p := ⟨b, o, none⟩) h); go_simp; try with_reducible rfl; done)); try simp only [Act.put, List.setIfInBounds_toArray, List.set_cons_zero, List.set_cons_succ])
      (refine held_takeA 3 (by rfl) ?_ (by kernel_rfl) (fun _ _ _ h => h) hs2r ?_ ?_; rotate_left; (focus (intro wq hSw; have hrd : ∀ b o, b < w3.heap.size → wq.cell? ⟨b, o, none⟩ = w3.cell? ⟨b, o, none⟩ := (fun b o h => hSw.cell (p := ⟨b, o, none⟩) h); go_simp; try with_reducible rfl; done)); try simp only [Act.put, List.setIfInBounds_toArray, List.set_cons_zero, List.set_cons_succ])
      (refine held_takeA 4 (by rfl) ?_ (by kernel_rfl) (fun _ _ _ h => h) hs2r ?_ ?_; rotate_left; (focus (intro wq hSw; have hrd : ∀ b o, b < w3.heap.size → wq.cell? ⟨b, o, none⟩ = w3.cell? ⟨b, o, none⟩ := (fun b o h => hSw.cell (p := ⟨b, o, none⟩) h); go_simp; try with_reducible rfl; done)); try simp only [Act.put, List.setIfInBounds_toArray, List.set_cons_zero, List.set_cons_succ])
      (refine held_takeA 5 (by rfl) ?_ (by kernel_rfl) (fun _ _ _ h => h) hs2r ?_ ?_; rotate_left; (focus (intro wq hSw; have hrd : ∀ b o, b < w3.heap.size → wq.cell? ⟨b, o, none⟩ = w3.cell? ⟨b, o, none⟩ := (fun b o h => hSw.cell (p := ⟨b, o, none⟩) h); go_simp; try with_reducible rfl; done)); try simp only [Act.put, List.setIfInBounds_toArray, List.set_cons_zero, List.set_cons_succ])
      (refine held_takeA 6 (by rfl) ?_ (by kernel_rfl) (fun _ _ _ h => h) hs2r ?_ ?_; rotate_left; (focus (intro wq hSw; have hrd : ∀ b o, b < w3.heap.size → wq.cell? ⟨b, o, none⟩ = w3.cell? ⟨b, o, none⟩ := (fun b o h => hSw.cell (p := ⟨b, o, none⟩) h); go_simp; try with_reducible rfl; done)); try simp only [Act.put, List.setIfInBounds_toArray, List.set_cons_zero, List.set_cons_succ])
      (refine held_takeA 7 (by rfl) ?_ (by kernel_rfl) (fun _ _ _ h => h) hs2r ?_ ?_; rotate_left; (focus (intro wq hSw; have hrd : ∀ b o, b < w3.heap.size → wq.cell? ⟨b, o, none⟩ = w3.cell? ⟨b, o, none⟩ := (fun b o h => hSw.cell (p := ⟨b, o, none⟩) h); go_simp; try with_reducible rfl; done)); try simp only [Act.put, List.setIfInBounds_toArray, List.set_cons_zero, List.set_cons_succ])
      (refine held_takeA 8 (by rfl) ?_ (by kernel_rfl) (fun _ _ _ h => h) hs2r ?_ ?_; rotate_left; (focus (intro wq hSw; have hrd : ∀ b o, b < w3.heap.size → wq.cell? ⟨b, o, none⟩ = w3.cell? ⟨b, o, none⟩ := (fun b o h => hSw.cell (p := ⟨b, o, none⟩) h); go_simp; try with_reducible rfl; done)); try simp only [Act.put, List.setIfInBounds_toArray, List.set_cons_zero, List.set_cons_succ])
      (refine held_takeA 9 (by rfl) ?_ (by kernel_rfl) (fun _ _ _ h => h) hs2r ?_ ?_; rotate_left; (focus (intro wq hSw; have hrd : ∀ b o, b < w3.heap.size → wq.cell? ⟨b, o, none⟩ = w3.cell? ⟨b, o, none⟩ := (fun b o h => hSw.cell (p := ⟨b, o, none⟩) h); go_simp; try with_reducible rfl; done)); try simp only [Act.put, List.setIfInBounds_toArray, List.set_cons_zero, List.set_cons_succ])
      (refine held_takeA 10 (by rfl) ?_ (by kernel_rfl) (fun _ _ _ h => h) hs2r ?_ ?_; rotate_left; (focus (intro wq hSw; have hrd : ∀ b o, b < w3.heap.size → wq.cell? ⟨b, o, none⟩ = w3.cell? ⟨b, o, none⟩ := (fun b o h => hSw.cell (p := ⟨b, o, none⟩) h); go_simp; try with_reducible rfl; done)); try simp only [Act.put, List.setIfInBounds_toArray, List.set_cons_zero, List.set_cons_succ])
      (refine held_takeA 11 (by rfl) ?_ (by kernel_rfl) (fun _ _ _ h => h) hs2r ?_ ?_; rotate_left; (focus (intro wq hSw; have hrd : ∀ b o, b < w3.heap.size → wq.cell? ⟨b, o, none⟩ = w3.cell? ⟨b, o, none⟩ := (fun b o h => hSw.cell (p := ⟨b, o, none⟩) h); go_simp; try with_reducible rfl; done)); try simp only [Act.put, List.setIfInBounds_toArray, List.set_cons_zero, List.set_cons_succ])
      (refine held_takeA 12 (by rfl) ?_ (by kernel_rfl) (fun _ _ _ h => h) hs2r ?_ ?_; rotate_left; (focus (intro wq hSw; have hrd : ∀ b o, b < w3.heap.size → wq.cell? ⟨b, o, none⟩ = w3.cell? ⟨b, o, none⟩ := (fun b o h => hSw.cell (p := ⟨b, o, none⟩) h); go_simp; try with_reducible rfl; done)); try simp only [Act.put, List.setIfInBounds_toArray, List.set_cons_zero, List.set_cons_succ])
      (refine held_takeA 13 (by rfl) ?_ (by kernel_rfl) (fun _ _ _ h => h) hs2r ?_ ?_; rotate_left; (focus (intro wq hSw; have hrd : ∀ b o, b < w3.heap.size → wq.cell? ⟨b, o, none⟩ = w3.cell? ⟨b, o, none⟩ := (fun b o h => hSw.cell (p := ⟨b, o, none⟩) h); go_simp; try with_reducible rfl; done)); try simp only [Act.put, List.setIfInBounds_toArray, List.set_cons_zero, List.set_cons_succ])
      (refine held_takeA 14 (by rfl) ?_ (by kernel_rfl) (fun _ _ _ h => h) hs2r ?_ ?_; rotate_left; (focus (intro wq hSw; have hrd : ∀ b o, b < w3.heap.size → wq.cell? ⟨b, o, none⟩ = w3.cell? ⟨b, o, none⟩ := (fun b o h => hSw.cell (p := ⟨b, o, none⟩) h); go_simp; try with_reducible rfl; done)); try simp only [Act.put, List.setIfInBounds_toArray, List.set_cons_zero, List.set_cons_succ])
      (refine held_takeA 15 (by rfl) ?_ (by kernel_rfl) (fun _ _ _ h => h) hs2r ?_ ?_; rotate_left; (focus (intro wq hSw; have hrd : ∀ b o, b < w3.heap.size → wq.cell? ⟨b, o, none⟩ = w3.cell? ⟨b, o, none⟩ := (fun b o h => hSw.cell (p := ⟨b, o, none⟩) h); go_simp; try with_reducible rfl; done)); try simp only [Act.put, List.setIfInBounds_toArray, List.set_cons_zero, List.set_cons_succ])
      (refine held_takeA 16 (by rfl) ?_ (by kernel_rfl) (fun _ _ _ h => h) hs2r ?_ ?_; rotate_left; (focus (intro wq hSw; have hrd : ∀ b o, b < w3.heap.size → wq.cell? ⟨b, o, none⟩ = w3.cell? ⟨b, o, none⟩ := (fun b o h => hSw.cell (p := ⟨b, o, none⟩) h); go_simp; try with_reducible rfl; done)); try simp only [Act.put, List.setIfInBounds_toArray, List.set_cons_zero, List.set_cons_succ])
      refine wpAnyH_done (by kernel_rfl) ?_ _
      try refine NoPanic.normal ?_
      go_wp2_with fail
      have hd3 : Below w3.heap.size w3 w3.drew := (Below.refl _ _).drew
      exact ⟨⟨k + 1, by omega, by go_num, hq3.below hd3 ltd3, by rw [hv.out.1]; exact hrow3.below hd3, by rw [hv.out.2]; exact hlv3.below hd3, hC3.trans (Chg.of_below (X := fun _ => False) hd3) (fun _ _ q => q.elim)⟩, by simp [intOf]; omega⟩
    have t2 : decide (pa ≤ no + 1 - r.at_) = true := by simpa using hp
    have hg : goneB (no + 1) pa r = true := by unfold goneB; simp [hs, hp]
    have hv1 := Lib.hid (show ((L.take k).map (lostR (no + 1) pa) ++ L.drop k).set k (lostR (no + 1) pa r) = (L.take (k + 1)).map (lostR (no + 1) pa) ++ L.drop (k + 1) by
      rw [mid_set hlen1.out hrk, List.take_add_one, hrk, List.map_append]; rfl)
    have hv2 := Lib.hid (show lostOf (no + 1) pa (L.take (k + 1)) = lostOf (no + 1) pa (L.take k) ++ [(r.id, r.sq)] by
      rw [List.take_add_one, hrk]; unfold lostOf; rw [List.filter_append, List.map_append]; simp [hg])
    have hlr := Lib.hid (show lostR (no + 1) pa r = { r with sq := 0 } by unfold lostR; rw [if_pos hg])
    clear stay
    replace hs := Lib.hid hs
    replace hp := Lib.hid hp
    replace hg := Lib.hid hg
    replace hrk := Lib.hid hrk
    replace hmk := Lib.hid hmk
    -- region 9: 0 1 2 3 4 5 6 7 8 9 10 11 12 13 14 15 16
    try refine wp_region_noPanic ?_
    have hs3r : Below w3.heap.size w3 w3.drew := (Below.refl _ _).drew
    refine wp_region_held_drew (S := fun w' => Below w3.heap.size w3 w') (by kernel_rfl) hs3r (fun _ => ?_)
    (refine held_takeA 0 (by rfl) ?_ (by kernel_rfl) (fun _ _ _ h => h) hs3r ?_ ?_; rotate_left; (focus (intro wq hSw; have hrd : ∀ b o, b < w3.heap.size → wq.cell? ⟨b, o, none⟩ = w3.cell? ⟨b, o, none⟩ := (fun b o h => hSw.cell (p := ⟨b, o, none⟩) h); go_simp; try with_reducible rfl; done)); try simp only [Act.put, List.setIfInBounds_toArray, List.set_cons_zero, List.set_cons_succ])
    (refine held_takeA 1 (by rfl) ?_ (by kernel_rfl) (fun _ _ _ h => h) hs3r ?_ ?_; rotate_left; (focus (intro wq hSw; have hrd : ∀ b o, b < w3.heap.size → wq.cell? ⟨b, o, none⟩ = w3.cell? ⟨b, o, none⟩ := (fun b o h => hSw.cell (p := ⟨b, o, none⟩) h); go_simp; try with_reducible rfl; done)); try simp only [Act.put, List.setIfInBounds_toArray, List.set_cons_zero, List.set_cons_succ])
    (refine held_takeA 2 (by rfl) ?_ (by kernel_rfl) (fun _ _ _ h => h) hs3r ?_ ?_; rotate_left; (focus (intro wq hSw; have hrd : ∀ b o, b < w3.heap.size → wq.cell? ⟨b, o, none⟩ = w3.cell? ⟨b, o, none⟩ := (fun b o h => hSw.cell (p := ⟨b, o, none⟩) h); go_simp; try with_reducible rfl; done)); try simp only [Act.put, List.setIfInBounds_toArray, List.set_cons_zero, List.set_cons_succ])
    (refine held_takeA 3 (by rfl) ?_ (by kernel_rfl) (fun _ _ _ h => h) hs3r ?_ ?_; rotate_left; (focus (intro wq hSw; have hrd : ∀ b o, b < w3.heap.size → wq.cell? ⟨b, o, none⟩ = w3.cell? ⟨b, o, none⟩ := (fun b o h => hSw.cell (p := ⟨b, o, none⟩) h); go_simp; try with_reducible rfl; done)); try simp only [Act.put, List.setIfInBounds_toArray, List.set_cons_zero, List.set_cons_succ])
    (refine held_takeA 4 (by rfl) ?_ (by kernel_rfl) (fun _ _ _ h => h) hs3r ?_ ?_; rotate_left; (focus (intro wq hSw; have hrd : ∀ b o, b < w3.heap.size → wq.cell? ⟨b, o, none⟩ = w3.cell? ⟨b, o, none⟩ := (fun b o h => hSw.cell (p := ⟨b, o, none⟩) h); go_simp; try with_reducible rfl; done)); try simp only [Act.put, List.setIfInBounds_toArray, List.set_cons_zero, List.set_cons_succ])
    (refine held_takeA 5 (by rfl) ?_ (by kernel_rfl) (fun _ _ _ h => h) hs3r ?_ ?_; rotate_left; (focus (intro wq hSw; have hrd : ∀ b o, b < w3.heap.size → wq.cell? ⟨b, o, none⟩ = w3.cell? ⟨b, o, none⟩ := (fun b o h => hSw.cell (p := ⟨b, o, none⟩) h); go_simp; try with_reducible rfl; done)); try simp only [Act.put, List.setIfInBounds_toArray, List.set_cons_zero, List.set_cons_succ])
    (refine held_takeA 6 (by rfl) ?_ (by kernel_rfl) (fun _ _ _ h => h) hs3r ?_ ?_; rotate_left; (focus (intro wq hSw; have hrd : ∀ b o, b < w3.heap.size → wq.cell? ⟨b, o, none⟩ = w3.cell? ⟨b, o, none⟩ := (fun b o h => hSw.cell (p := ⟨b, o, none⟩) h); go_simp; try with_reducible rfl; done)); try simp only [Act.put, List.setIfInBounds_toArray, List.set_cons_zero, List.set_cons_succ])
    (refine held_takeA 7 (by rfl) ?_ (by kernel_rfl) (fun _ _ _ h => h) hs3r ?_ ?_; rotate_left; (focus (intro wq hSw; have hrd : ∀ b o, b < w3.heap.size → wq.cell? ⟨b, o, none⟩ = w3.cell? ⟨b, o, none⟩ := (fun b o h => hSw.cell (p := ⟨b, o, none⟩) h); go_simp; try with_reducible rfl; done)); try simp only [Act.put, List.setIfInBounds_toArray, List.set_cons_zero, List.set_cons_succ])
    (refine held_takeA 8 (by rfl) ?_ (by kernel_rfl) (fun _ _ _ h => h) hs3r ?_ ?_; rotate_left; (focus (intro wq hSw; have hrd : ∀ b o, b < w3.heap.size → wq.cell? ⟨b, o, none⟩ = w3.cell? ⟨b, o, none⟩ := (fun b o h => hSw.cell (p := ⟨b, o, none⟩) h); go_simp; try with_reducible rfl; done)); try simp only [Act.put, List.setIfInBounds_toArray, List.set_cons_zero, List.set_cons_succ])
    (refine held_takeA 9 (by rfl) ?_ (by kernel_rfl) (fun _ _ _ h => h) hs3r ?_ ?_; rotate_left; (focus (intro wq hSw; have hrd : ∀ b o, b < w3.heap.size → wq.cell? ⟨b, o, none⟩ = w3.cell? ⟨b, o, none⟩ := (fun b o h => hSw.cell (p := ⟨b, o, none⟩) h); go_simp; try with_reducible rfl; done)); try simp only [Act.put, List.setIfInBounds_toArray, List.set_cons_zero, List.set_cons_succ])
    (refine held_takeA 10 (by rfl) ?_ (by kernel_rfl) (fun _ _ _ h => h) hs3r ?_ ?_; rotate_left; (focus (intro wq hSw; have hrd : ∀ b o, b < w3.heap.size → wq.cell? ⟨b, o, none⟩ = w3.cell? ⟨b, o, none⟩ := (fun b o h => hSw.cell (p := ⟨b, o, none⟩) h); go_simp; try with_reducible rfl; done)); try simp only [Act.put, List.setIfInBounds_toArray, List.set_cons_zero, List.set_cons_succ])
    (refine held_takeA 11 (by rfl) ?_ (by kernel_rfl) (fun _ _ _ h => h) hs3r ?_ ?_; rotate_left; (focus (intro wq hSw; have hrd : ∀ b o, b < w3.heap.size → wq.cell? ⟨b, o, none⟩ = w3.cell? ⟨b, o, none⟩ := (fun b o h => hSw.cell (p := ⟨b, o, none⟩) h); go_simp; try with_reducible rfl; done)); try simp only [Act.put, List.setIfInBounds_toArray, List.set_cons_zero, List.set_cons_succ])
    (refine held_takeA 12 (by rfl) ?_ (by kernel_rfl) (fun _ _ _ h => h) hs3r ?_ ?_; rotate_left; (focus (intro wq hSw; have hrd : ∀ b o, b < w3.heap.size → wq.cell? ⟨b, o, none⟩ = w3.cell? ⟨b, o, none⟩ := (fun b o h => hSw.cell (p := ⟨b, o, none⟩) h); go_simp; try with_reducible rfl; done)); try simp only [Act.put, List.setIfInBounds_toArray, List.set_cons_zero, List.set_cons_succ])
    (refine held_takeA 13 (by rfl) ?_ (by kernel_rfl) (fun _ _ _ h => h) hs3r ?_ ?_; rotate_left; (focus (intro wq hSw; have hrd : ∀ b o, b < w3.heap.size → wq.cell? ⟨b, o, none⟩ = w3.cell? ⟨b, o, none⟩ := (fun b o h => hSw.cell (p := ⟨b, o, none⟩) h); go_simp; try with_reducible rfl; done)); try simp only [Act.put, List.setIfInBounds_toArray, List.set_cons_zero, List.set_cons_succ])
    (refine held_takeA 14 (by rfl) ?_ (by kernel_rfl) (fun _ _ _ h => h) hs3r ?_ ?_; rotate_left; (focus (intro wq hSw; have hrd : ∀ b o, b < w3.heap.size → wq.cell? ⟨b, o, none⟩ = w3.cell? ⟨b, o, none⟩ := (fun b o h => hSw.cell (p := ⟨b, o, none⟩) h); go_simp; try with_reducible rfl; done)); try simp only [Act.put, List.setIfInBounds_toArray, List.set_cons_zero, List.set_cons_succ])
    (refine held_takeA 15 (by rfl) ?_ (by kernel_rfl) (fun _ _ _ h => h) hs3r ?_ ?_; rotate_left; (focus (intro wq hSw; have hrd : ∀ b o, b < w3.heap.size → wq.cell? ⟨b, o, none⟩ = w3.cell? ⟨b, o, none⟩ := (fun b o h => hSw.cell (p := ⟨b, o, none⟩) h); go_simp; try with_reducible rfl; done)); try simp only [Act.put, List.setIfInBounds_toArray, List.set_cons_zero, List.set_cons_succ])
    (refine held_takeA 16 (by rfl) ?_ (by kernel_rfl) (fun _ _ _ h => h) hs3r ?_ ?_; rotate_left; (focus (intro wq hSw; have hrd : ∀ b o, b < w3.heap.size → wq.cell? ⟨b, o, none⟩ = w3.cell? ⟨b, o, none⟩ := (fun b o h => hSw.cell (p := ⟨b, o, none⟩) h); go_simp; try with_reducible rfl; done)); try simp only [Act.put, List.setIfInBounds_toArray, List.set_cons_zero, List.set_cons_succ])
    refine wpAnyH_done (by kernel_rfl) ?_ _
    try refine NoPanic.normal ?_
    have hd3 : Below w3.heap.size w3 w3.drew := (Below.refl _ _).drew
    replace hq3 := hq3.below hd3 ltd3
    replace hrow3 := hrow3.below hd3
    replace hlv3 := hlv3.below hd3
    replace hC3 := hC3.trans (Chg.of_below (X := fun _ => False) hd3) (fun _ _ q => q.elim)
    replace s0 : w3.drew.cell? ⟨wo.heap.size, 0, none⟩ = some (.int .i64 r.id) := s0
    replace s2 : w3.drew.cell? ⟨wo.heap.size, 2, none⟩ = some (.int .i64 r.sq) := s2
    replace lts : wo.heap.size < w3.drew.heap.size := lts
    clear s3 c1 c2 ltd3 hd3 hqx
    generalize w3.drew = w6 at *
    have hb7 := (Below.refl w6.heap.size w6).alloc (Nat.le_refl _) (.cells #[.int .i64 r.id, .int .i64 r.sq] 225)
    have hlv7 := hlv3.below hb7
    have hz7 : w.heap.size ≤ (w6.alloc (.cells #[.int .i64 r.id, .int .i64 r.sq] 225)).heap.size := Nat.le_trans hC3.size hb7.size
    have hseen : Seen prK (w6.alloc (.cells #[.int .i64 r.id, .int .i64 r.sq] 225)) (fun _ => True) (some ⟨w6.heap.size, 0, none⟩) 1 [(r.id, r.sq)] := seen_one (R := prK) (S := fun _ => False) (S' := fun _ => True) w6 225 (r.id, r.sq) #[.int .i64 r.id, .int .i64 r.sq] rfl trivial (fun _ h => h.elim) trivial (fun _ h => h.elim)
    go_upto_region 11 with (at_builtin; refine wpList_rows pr_ok24 rfl (.tmp 58) (.tmp 64) rfl hlv7 rfl rfl hseen (fun _ _ => trivial) (by unfold maxLen; omega) (by omega) hz7 ?_; intro v8 w8 hlv8 hg8)
    have hC78 : Chg w6 w8 (fun k => u5.ownBlock = some k) := (Chg.of_below (X := fun k => u5.ownBlock = some k) hb7).trans (Chg.of_grownO hg8 fun _ e => e) fun _ _ q => q
    have hq8 := hC78.blk hq3 (own_ne_blk hlv3.1 hq3 (by decide))
    have hrow8 := row_chg hrow3 (fun _ _ _ => trivial) hC78 (own_ne_own hrow3.1 hlv3.1 (by decide))
    have hC8 : Chg w w8 (fun k => k = d) := hC3.trans hC78 (fun i hi q => by have := (hlv3.1.lt i q).1; omega)
    obtain ⟨-, -, e2, -, ef, -, hq8l⟩ := rp_row hrow8 hlenr.out hmk.out
    have c48 : w8.cell? ⟨d, 4, none⟩ = some (.slice (some ⟨q, 0, none⟩) n c5) := hq8.cellv 4 rfl
    have ltd8 := hq8.lt
    have fr8 := ef (k * 4 + 2)
    obtain ⟨hrow9, hg9⟩ := rows_field (e := lostR (no + 1) pa r) (i := 2) (u := .int .i64 0) hrow8 (fun _ _ _ => trivial) hlenr.out hmk.out (by decide) (by rw [hlr.out]; rfl)
    rw [hv1.out] at hrow9
    have hC9 : Chg w8 (w8.setCell ⟨q, k * 4 + 2, none⟩ (.int .i64 0)) (fun k => k = q) := Chg.of_grown hg9 rfl
    have hlv9 := row_chg hlv8 (fun _ _ _ => trivial) hC9 fun j e q2 => own_ne_own hlv8.1 hrow8.1 (by decide) j e (by rw [q2]; rfl)
    have hq9 := hC9.blk hq8 hdq
    have hC9' : Chg w (w8.setCell ⟨q, k * 4 + 2, none⟩ (.int .i64 0)) (fun k => k = d) := hC8.trans hC9 (fun i hi q2 => by omega)
    replace hg9 := Lib.hid hg9
    replace hrow9 : Rows rpK (w8.setCell ⟨q, k * 4 + 2, none⟩ (.int .i64 0)) w.heap.size w.heap.size 250 (.slice (some ⟨q, 0, none⟩) n c5) ((L.take (k + 1)).map (lostR (no + 1) pa) ++ L.drop (k + 1)) := hrow9
    replace ef := Lib.hid ef
    go_wp2_with fail
    exact ⟨⟨k + 1, by omega, by go_num, hq9, hrow9, by rw [hv2.out]; exact hlv9, hC9'⟩, by simp [intOf]; omega⟩
  obtain rfl : k = n := by omega
  have hL1 := Lib.hid (show (L.take k).map (lostR (no + 1) pa) ++ L.drop k = tick1 no pa L by rw [List.take_of_length_le (by have := hn2.out; omega), List.drop_of_length_le (by have := hn2.out; omega), List.append_nil]; rfl)
  have hlo := Lib.hid (show lostOf (no + 1) pa (L.take k) = lostOf (no + 1) pa L by rw [List.take_of_length_le (by have := hn2.out; omega)])
  rw [hL1.out] at hrow
  rw [hlo.out] at hlv
  have hn1 := Lib.hid (show k = (tick1 no pa L).length by unfold tick1; rw [List.length_map]; exact hn2.out)
  have c4 : wo.cell? ⟨d, 4, none⟩ = some (.slice A5 k c5) := hq.cellv 4 rfl
  have ltdo := hq.lt
  have hki : decide ((k : Int) < (k : Int)) = false := by simp
  have hlen0 : (lostOf (no + 1) pa L).length ≤ k := by rw [← hlo.out]; exact hlenl
  clear hlen1 hlenl hlenr hL1 hlo hlt hk
  obtain ⟨M, hM⟩ : ∃ M, M = tick1 no pa L := ⟨_, rfl⟩
  rw [← hM] at hrow hn1
  replace hM := Lib.hid hM
  obtain ⟨Z1, hZ1⟩ : ∃ Z1, Z1 = lostOf (no + 1) pa L := ⟨_, rfl⟩
  rw [← hZ1] at hlv hlen0
  replace hZ1 := Lib.hid hZ1
  generalize u5 = lv at *
  obtain ⟨zB, hzB⟩ : ∃ z, z = wo.heap.size := ⟨_, rfl⟩
  have hlvB : ∀ b, lv.ownBlock = some b → b < zB := fun b e => by have := (hlv.1.lt b e).2; omega
  have hwB : w.heap.size ≤ zB := by omega
  have hoB : zB ≤ wo.heap.size := by omega
  replace hzB := True.intro
  go_wp2_with fail
  go_loopw [4, 79] (fun av i wr => ∃ j : Nat, j ≤ k ∧ i = .int .i64 (j : Int) ∧ Blk wr d 228 #[.int .i64 ev, .int .i64 pa, .int .i64 (no + 1), .int .i64 ((askAll (no + 1) ev sq (M.take j)).2.1), .slice A5 k c5] ∧ Rows rpK wr w.heap.size w.heap.size 250 (.slice A5 k c5) ((askAll (no + 1) ev sq (M.take j)).1 ++ M.drop j) ∧ Rows prK wr zB zB 225 av (askAll (no + 1) ev sq (M.take j)).2.2 ∧ Rows prK wr w.heap.size w.heap.size 225 lv Z1 ∧ zB ≤ wr.heap.size ∧ Chg w wr (fun k => k = d)) (fun _ i _ => k - (intOf i).toNat)
  case atStart =>
    exact ⟨0, Nat.zero_le _, rfl, hq, hrow, Rows.nil _ _ _ _, hlv, hoB, hC⟩
  case round =>
  clear hq hrow hC hlv c4 ltdo
  generalize wr = wt at *
  obtain ⟨j, hj, rfl, hq, hrow, hav, hlv, hzt, hC⟩ := hrel
  have hsep : ∀ b, lv.ownBlock = some b → u4.ownBlock ≠ some b := fun b e e2 => by have := hlvB b e; have := (hav.1.lt b e2).1; omega
  have hz := hC.size
  obtain ⟨T, hT⟩ : ∃ T, T = askAll (no + 1) ev sq (M.take j) := ⟨_, rfl⟩
  have hsqb : sq ≤ T.2.1 ∧ T.2.1 ≤ sq + j := by
    have := ask_sq (no + 1) ev (M.take j) sq
    rw [← hT] at this
    have h9 : (M.take j).length = j := by rw [List.length_take]; have := hn1.out; omega
    rw [h9] at this
    exact this
  have hlen1 := Lib.hid (show T.1.length = j by rw [hT, ask_len, List.length_take]; have := hn1.out; omega)
  have hlenl : T.2.2.length ≤ j := by rw [hT]; exact Nat.le_trans (ask_out _ _ _ _) (by rw [List.length_take]; omega)
  rw [← hT] at hq hrow hav
  have hlenr := Lib.hid (show k = (T.1 ++ M.drop j).length by rw [List.length_append, hlen1.out, List.length_drop]; have := hn1.out; omega)
  replace hT := Lib.hid hT
  by_cases hlt : j < k
  · obtain ⟨r, hrk⟩ : ∃ r, M[j]? = some r := ⟨_, List.getElem?_eq_getElem (by have := hn1.out; omega)⟩
    have hmk := mid_get hlen1.out hrk
    obtain ⟨q, cq, eq, hloq, hltq, -, -⟩ := hrow.1.form (by rw [← hlenr.out]; omega)
    rw [← hlenr.out] at eq
    injection eq with eq1 _ eq3
    subst eq1
    subst eq3
    obtain ⟨r0, r1, r2, r3, rf, -, -⟩ := rp_row hrow hlenr.out hmk
    have hji : (j : Int) < k := by omega
    have ltd := hq.lt
    have hdq : d ≠ q := fun e => own_ne_blk hrow.1 hq (by decide) (by rw [e]; rfl)
    have c4 : wt.cell? ⟨d, 4, none⟩ = some (.slice (some ⟨q, 0, none⟩) k c5) := hq.cellv 4 rfl
    have hbx := (Below.refl wt.heap.size wt).alloc (Nat.le_refl _) (.cells #[.int .i64 r.id, .int .i64 r.nx, .int .i64 r.sq, .int .i64 r.at_] 250)
    have hqx := Blk.new wt 250 #[.int .i64 r.id, .int .i64 r.nx, .int .i64 r.sq, .int .i64 r.at_]
    have hq3 := hq.below hbx ltd
    have hrow3 := hrow.below hbx
    have hlv3 := hlv.below hbx
    have hav3 := hav.below hbx
    have hC3 := hC.trans (Chg.of_below (X := fun _ => False) hbx) (fun _ _ q => q.elim)
    have hsn := ask_snoc (no + 1) ev r (M.take j) sq
    rw [← hT.out, show M.take j ++ [r] = M.take (j + 1) by rw [List.take_add_one, hrk]; rfl] at hsn
    go_upto_region 16 with (fail)
    clear r0 r1 r2 r3 rf c4
    generalize wt.alloc (.cells #[.int .i64 r.id, .int .i64 r.nx, .int .i64 r.sq, .int .i64 r.at_] 250) = w3 at *
    have s0 : w3.cell? ⟨wt.heap.size, 0, none⟩ = some (.int .i64 r.id) := hqx.cellv 0 rfl
    have s1 : w3.cell? ⟨wt.heap.size, 1, none⟩ = some (.int .i64 r.nx) := hqx.cellv 1 rfl
    have lts := hqx.lt
    have ltd3 := hq3.lt
    have c2 : w3.cell? ⟨d, 2, none⟩ = some (.int .i64 (no + 1)) := hq3.cellv 2 rfl
    by_cases hx : r.nx = no + 1
    rotate_left
    · have t1 : (r.nx == no + 1) = false := by simpa using hx
      rw [if_neg hx] at hsn
      have hv := Lib.hid hsn
      have hms := Lib.hid (mid_same (P := T.1) hrk)
      replace hx := Lib.hid hx
      replace hrk := Lib.hid hrk
      replace hmk := Lib.hid hmk
      clear hsn
      -- region 16: 0 1 2 3 4 5 6
      try refine wp_region_noPanic ?_
      have hs4r : Below w3.heap.size w3 w3.drew := (Below.refl _ _).drew
      refine wp_region_held_drew (S := fun w' => Below w3.heap.size w3 w') (by kernel_rfl) hs4r (fun _ => ?_)
      (refine held_takeA 0 (by rfl) ?_ (by kernel_rfl) (fun _ _ _ h => h) hs4r ?_ ?_; rotate_left; (focus (intro wq hSw; have hrd : ∀ b o, b < w3.heap.size → wq.cell? ⟨b, o, none⟩ = w3.cell? ⟨b, o, none⟩ := (fun b o h => hSw.cell (p := ⟨b, o, none⟩) h); go_simp; try with_reducible rfl; done)); try simp only [Act.put, List.setIfInBounds_toArray, List.set_cons_zero, List.set_cons_succ])
      (refine held_takeA 1 (by rfl) ?_ (by kernel_rfl) (fun _ _ _ h => h) hs4r ?_ ?_; rotate_left; (focus (intro wq hSw; have hrd : ∀ b o, b < w3.heap.size → wq.cell? ⟨b, o, none⟩ = w3.cell? ⟨b, o, none⟩ := (fun b o h => hSw.cell (p := ⟨b, o, none⟩) h); go_simp; try with_reducible rfl; done)); try simp only [Act.put, List.setIfInBounds_toArray, List.set_cons_zero, List.set_cons_succ])
      (refine held_takeA 2 (by rfl) ?_ (by kernel_rfl) (fun _ _ _ h => h) hs4r ?_ ?_; rotate_left; (focus (intro wq hSw; have hrd : ∀ b o, b < w3.heap.size → wq.cell? ⟨b, o, none⟩ = w3.cell? ⟨b, o, none⟩ := (fun b o h => hSw.cell (p := ⟨b, o, none⟩) h); go_simp; try with_reducible rfl; done)); try simp only [Act.put, List.setIfInBounds_toArray, List.set_cons_zero, List.set_cons_succ])
      (refine held_takeA 3 (by rfl) ?_ (by kernel_rfl) (fun _ _ _ h => h) hs4r ?_ ?_; rotate_left; (focus (intro wq hSw; have hrd : ∀ b o, b < w3.heap.size → wq.cell? ⟨b, o, none⟩ = w3.cell? ⟨b, o, none⟩ := (fun b o h => hSw.cell (p := ⟨b, o, none⟩) h); go_simp; try with_reducible rfl; done)); try simp only [Act.put, List.setIfInBounds_toArray, List.set_cons_zero, List.set_cons_succ])
      (refine held_takeA 4 (by rfl) ?_ (by kernel_rfl) (fun _ _ _ h => h) hs4r ?_ ?_; rotate_left; (focus (intro wq hSw; have hrd : ∀ b o, b < w3.heap.size → wq.cell? ⟨b, o, none⟩ = w3.cell? ⟨b, o, none⟩ := (fun b o h => hSw.cell (p := ⟨b, o, none⟩) h); go_simp; try with_reducible rfl; done)); try simp only [Act.put, List.setIfInBounds_toArray, List.set_cons_zero, List.set_cons_succ])
      (refine held_takeA 5 (by rfl) ?_ (by kernel_rfl) (fun _ _ _ h => h) hs4r ?_ ?_; rotate_left; (focus (intro wq hSw; have hrd : ∀ b o, b < w3.heap.size → wq.cell? ⟨b, o, none⟩ = w3.cell? ⟨b, o, none⟩ := (fun b o h => hSw.cell (p := ⟨b, o, none⟩) h); go_simp; try with_reducible rfl; done)); try simp only [Act.put, List.setIfInBounds_toArray, List.set_cons_zero, List.set_cons_succ])
      (refine held_takeA 6 (by rfl) ?_ (by kernel_rfl) (fun _ _ _ h => h) hs4r ?_ ?_; rotate_left; (focus (intro wq hSw; have hrd : ∀ b o, b < w3.heap.size → wq.cell? ⟨b, o, none⟩ = w3.cell? ⟨b, o, none⟩ := (fun b o h => hSw.cell (p := ⟨b, o, none⟩) h); go_simp; try with_reducible rfl; done)); try simp only [Act.put, List.setIfInBounds_toArray, List.set_cons_zero, List.set_cons_succ])
      refine wpAnyH_done (by kernel_rfl) ?_ _
      try refine NoPanic.normal ?_
      go_wp2_with fail
      have hd3 : Below w3.heap.size w3 w3.drew := (Below.refl _ _).drew
      exact ⟨⟨j + 1, by omega, by go_num, by rw [hv.out]; exact hq3.below hd3 ltd3, by rw [hv.out, ← hms.out]; exact hrow3.below hd3, by rw [hv.out]; exact hav3.below hd3, hlv3.below hd3, Nat.le_trans hzt (Nat.le_trans hbx.size hd3.size), hC3.trans (Chg.of_below (X := fun _ => False) hd3) (fun _ _ q => q.elim)⟩, by simp [intOf]; omega⟩
    have t1 : (r.nx == no + 1) = true := by simpa using hx
    rw [if_pos hx] at hsn
    have hv := Lib.hid hsn
    have hms := Lib.hid (mid_set (e := askR (no + 1) ev T.2.1 r) hlen1.out hrk)
    replace hx := Lib.hid hx
    replace hrk := Lib.hid hrk
    replace hmk := Lib.hid hmk
    clear hsn
    -- region 16: 0 1 2 3 4 5 6
    try refine wp_region_noPanic ?_
    have hs5r : Below w3.heap.size w3 w3.drew := (Below.refl _ _).drew
    refine wp_region_held_drew (S := fun w' => Below w3.heap.size w3 w') (by kernel_rfl) hs5r (fun _ => ?_)
    (refine held_takeA 0 (by rfl) ?_ (by kernel_rfl) (fun _ _ _ h => h) hs5r ?_ ?_; rotate_left; (focus (intro wq hSw; have hrd : ∀ b o, b < w3.heap.size → wq.cell? ⟨b, o, none⟩ = w3.cell? ⟨b, o, none⟩ := (fun b o h => hSw.cell (p := ⟨b, o, none⟩) h); go_simp; try with_reducible rfl; done)); try simp only [Act.put, List.setIfInBounds_toArray, List.set_cons_zero, List.set_cons_succ])
    (refine held_takeA 1 (by rfl) ?_ (by kernel_rfl) (fun _ _ _ h => h) hs5r ?_ ?_; rotate_left; (focus (intro wq hSw; have hrd : ∀ b o, b < w3.heap.size → wq.cell? ⟨b, o, none⟩ = w3.cell? ⟨b, o, none⟩ := (fun b o h => hSw.cell (p := ⟨b, o, none⟩) h); go_simp; try with_reducible rfl; done)); try simp only [Act.put, List.setIfInBounds_toArray, List.set_cons_zero, List.set_cons_succ])
    (refine held_takeA 2 (by rfl) ?_ (by kernel_rfl) (fun _ _ _ h => h) hs5r ?_ ?_; rotate_left; (focus (intro wq hSw; have hrd : ∀ b o, b < w3.heap.size → wq.cell? ⟨b, o, none⟩ = w3.cell? ⟨b, o, none⟩ := (fun b o h => hSw.cell (p := ⟨b, o, none⟩) h); go_simp; try with_reducible rfl; done)); try simp only [Act.put, List.setIfInBounds_toArray, List.set_cons_zero, List.set_cons_succ])
    (refine held_takeA 3 (by rfl) ?_ (by kernel_rfl) (fun _ _ _ h => h) hs5r ?_ ?_; rotate_left; (focus (intro wq hSw; have hrd : ∀ b o, b < w3.heap.size → wq.cell? ⟨b, o, none⟩ = w3.cell? ⟨b, o, none⟩ := (fun b o h => hSw.cell (p := ⟨b, o, none⟩) h); go_simp; try with_reducible rfl; done)); try simp only [Act.put, List.setIfInBounds_toArray, List.set_cons_zero, List.set_cons_succ])
    (refine held_takeA 4 (by rfl) ?_ (by kernel_rfl) (fun _ _ _ h => h) hs5r ?_ ?_; rotate_left; (focus (intro wq hSw; have hrd : ∀ b o, b < w3.heap.size → wq.cell? ⟨b, o, none⟩ = w3.cell? ⟨b, o, none⟩ := (fun b o h => hSw.cell (p := ⟨b, o, none⟩) h); go_simp; try with_reducible rfl; done)); try simp only [Act.put, List.setIfInBounds_toArray, List.set_cons_zero, List.set_cons_succ])
    (refine held_takeA 5 (by rfl) ?_ (by kernel_rfl) (fun _ _ _ h => h) hs5r ?_ ?_; rotate_left; (focus (intro wq hSw; have hrd : ∀ b o, b < w3.heap.size → wq.cell? ⟨b, o, none⟩ = w3.cell? ⟨b, o, none⟩ := (fun b o h => hSw.cell (p := ⟨b, o, none⟩) h); go_simp; try with_reducible rfl; done)); try simp only [Act.put, List.setIfInBounds_toArray, List.set_cons_zero, List.set_cons_succ])
    (refine held_takeA 6 (by rfl) ?_ (by kernel_rfl) (fun _ _ _ h => h) hs5r ?_ ?_; rotate_left; (focus (intro wq hSw; have hrd : ∀ b o, b < w3.heap.size → wq.cell? ⟨b, o, none⟩ = w3.cell? ⟨b, o, none⟩ := (fun b o h => hSw.cell (p := ⟨b, o, none⟩) h); go_simp; try with_reducible rfl; done)); try simp only [Act.put, List.setIfInBounds_toArray, List.set_cons_zero, List.set_cons_succ])
    refine wpAnyH_done (by kernel_rfl) ?_ _
    try refine NoPanic.normal ?_
    have hd3 : Below w3.heap.size w3 w3.drew := (Below.refl _ _).drew
    replace hq3 := hq3.below hd3 ltd3
    replace hrow3 := hrow3.below hd3
    replace hlv3 := hlv3.below hd3
    replace hav3 := hav3.below hd3
    replace hC3 := hC3.trans (Chg.of_below (X := fun _ => False) hd3) (fun _ _ q => q.elim)
    replace s0 : w3.drew.cell? ⟨wt.heap.size, 0, none⟩ = some (.int .i64 r.id) := s0
    replace hqx := hqx.below hd3 lts
    replace lts : wt.heap.size < w3.drew.heap.size := lts
    clear s1 c2 ltd3 hd3
    have hz36 : wt.heap.size ≤ w3.drew.heap.size := hbx.size
    generalize w3.drew = w6 at *
    have kw3 : IntKind.i64.wrap (T.2.1 + 1) = T.2.1 + 1 := IntWalk.i64_in _ (by omega)
    have kw4 : IntKind.i64.wrap (no + 1 + ev) = no + 1 + ev := IntWalk.i64_in _ (by omega)
    have c3 : w6.cell? ⟨d, 3, none⟩ = some (.int .i64 T.2.1) := hq3.cellv 3 rfl
    have f3 := hq3.frozen 3
    have l3 := hq3.lt
    go_upto_region 18 with (fail)
    obtain ⟨hq7, hg7⟩ := blk_store hq3 3 (.int .i64 (T.2.1 + 1))
    replace hq7 : Blk (w6.setCell ⟨d, 3, none⟩ (.int .i64 (T.2.1 + 1))) d 228 #[.int .i64 ev, .int .i64 pa, .int .i64 (no + 1), .int .i64 (T.2.1 + 1), .slice (some ⟨q, 0, none⟩) k c5] := hq7
    have hC67 : Chg w6 (w6.setCell ⟨d, 3, none⟩ (.int .i64 (T.2.1 + 1))) (fun k => k = d) := Chg.of_grown hg7 rfl
    have hdl := own_ne_blk hlv3.1 hq3 (by decide)
    have hda := own_ne_blk hav3.1 hq3 (by decide)
    have hrow7 := row_chg hrow3 (fun _ _ _ => trivial) hC67 fun b e q2 => hdq (by rw [← q2]; exact (Option.some.inj e).symm)
    have hlv7 := row_chg hlv3 (fun _ _ _ => trivial) hC67 fun b e q2 => hdl (q2 ▸ e)
    have hav7 := row_chg hav3 (fun _ _ _ => trivial) hC67 fun b e q2 => hda (q2 ▸ e)
    have ltsd : wt.heap.size ≠ d := by omega
    have hqx7 := hC67.blk hqx ltsd
    have hC7 := hC3.trans hC67 (fun _ _ q => q)
    have hzc67 := hC67.size
    clear hq3 hrow3 hlv3 hav3 hC3 hqx hC67 hg7 s0 lts c3 f3 l3
    have hz67 : w6.heap.size ≤ (w6.setCell ⟨d, 3, none⟩ (.int .i64 (T.2.1 + 1))).heap.size := hzc67
    generalize w6.setCell ⟨d, 3, none⟩ (.int .i64 (T.2.1 + 1)) = w7 at *
    have k0 : w7.cell? ⟨d, 0, none⟩ = some (.int .i64 ev) := hq7.cellv 0 rfl
    have k2 : w7.cell? ⟨d, 2, none⟩ = some (.int .i64 (no + 1)) := hq7.cellv 2 rfl
    have k3 : w7.cell? ⟨d, 3, none⟩ = some (.int .i64 (T.2.1 + 1)) := hq7.cellv 3 rfl
    have k4 : w7.cell? ⟨d, 4, none⟩ = some (.slice (some ⟨q, 0, none⟩) k c5) := hq7.cellv 4 rfl
    have ltd7 := hq7.lt
    obtain ⟨a0, a1, a2, a3, af, aq1, aq2⟩ := rp_row hrow7 hlenr.out hmk.out
    have af2 := af (j * 4 + 2)
    have af3 := af (j * 4 + 3)
    have af1 := af (j * 4 + 1)
    have qs : wt.heap.size ≠ q := by omega
    replace af := Lib.hid af
    have hz7 := hC7.size
    have hzB7 : zB ≤ w7.heap.size := by omega
    -- region 18: 0 1 2 3 4 5 6 7 8 9 10 11 12 13 14 15 16 17 18 19 20 21 22 23 24 25 26 27 28 29 30 31 32 33 34M 35 36 37M 38 39 40M
    try refine wp_region_noPanic ?_
    have hs6r : w7.grownBy w7.drew (some q) := grown_drew (grown_refl _ _)
    refine wp_region_held_drew (S := fun w' => w7.grownBy w' (some q)) (by kernel_rfl) hs6r (fun _ => ?_)
    (refine held_takeA 0 (by rfl) ?_ (by kernel_rfl) (fun _ _ _ h => h) hs6r ?_ ?_; rotate_left; (focus (intro wq hSw; have hrd : ∀ b' o, b' < w7.heap.size → b' ≠ q → wq.cell? ⟨b', o, none⟩ = w7.cell? ⟨b', o, none⟩ := (fun b' o h hne => grown_cell hSw h hne); go_simp; try with_reducible rfl; done)); try simp only [Act.put, List.setIfInBounds_toArray, List.set_cons_zero, List.set_cons_succ])
    (refine held_takeA 1 (by rfl) ?_ (by kernel_rfl) (fun _ _ _ h => h) hs6r ?_ ?_; rotate_left; (focus (intro wq hSw; have hrd : ∀ b' o, b' < w7.heap.size → b' ≠ q → wq.cell? ⟨b', o, none⟩ = w7.cell? ⟨b', o, none⟩ := (fun b' o h hne => grown_cell hSw h hne); go_simp; try with_reducible rfl; done)); try simp only [Act.put, List.setIfInBounds_toArray, List.set_cons_zero, List.set_cons_succ])
    (refine held_takeA 2 (by rfl) ?_ (by kernel_rfl) (fun _ _ _ h => h) hs6r ?_ ?_; rotate_left; (focus (intro wq hSw; have hrd : ∀ b' o, b' < w7.heap.size → b' ≠ q → wq.cell? ⟨b', o, none⟩ = w7.cell? ⟨b', o, none⟩ := (fun b' o h hne => grown_cell hSw h hne); go_simp; try with_reducible rfl; done)); try simp only [Act.put, List.setIfInBounds_toArray, List.set_cons_zero, List.set_cons_succ])
    (refine held_takeA 3 (by rfl) ?_ (by kernel_rfl) (fun _ _ _ h => h) hs6r ?_ ?_; rotate_left; (focus (intro wq hSw; have hrd : ∀ b' o, b' < w7.heap.size → b' ≠ q → wq.cell? ⟨b', o, none⟩ = w7.cell? ⟨b', o, none⟩ := (fun b' o h hne => grown_cell hSw h hne); go_simp; try with_reducible rfl; done)); try simp only [Act.put, List.setIfInBounds_toArray, List.set_cons_zero, List.set_cons_succ])
    (refine held_takeA 4 (by rfl) ?_ (by kernel_rfl) (fun _ _ _ h => h) hs6r ?_ ?_; rotate_left; (focus (intro wq hSw; have hrd : ∀ b' o, b' < w7.heap.size → b' ≠ q → wq.cell? ⟨b', o, none⟩ = w7.cell? ⟨b', o, none⟩ := (fun b' o h hne => grown_cell hSw h hne); go_simp; try with_reducible rfl; done)); try simp only [Act.put, List.setIfInBounds_toArray, List.set_cons_zero, List.set_cons_succ])
    (refine held_takeA 5 (by rfl) ?_ (by kernel_rfl) (fun _ _ _ h => h) hs6r ?_ ?_; rotate_left; (focus (intro wq hSw; have hrd : ∀ b' o, b' < w7.heap.size → b' ≠ q → wq.cell? ⟨b', o, none⟩ = w7.cell? ⟨b', o, none⟩ := (fun b' o h hne => grown_cell hSw h hne); go_simp; try with_reducible rfl; done)); try simp only [Act.put, List.setIfInBounds_toArray, List.set_cons_zero, List.set_cons_succ])
    (refine held_takeA 6 (by rfl) ?_ (by kernel_rfl) (fun _ _ _ h => h) hs6r ?_ ?_; rotate_left; (focus (intro wq hSw; have hrd : ∀ b' o, b' < w7.heap.size → b' ≠ q → wq.cell? ⟨b', o, none⟩ = w7.cell? ⟨b', o, none⟩ := (fun b' o h hne => grown_cell hSw h hne); go_simp; try with_reducible rfl; done)); try simp only [Act.put, List.setIfInBounds_toArray, List.set_cons_zero, List.set_cons_succ])
    (refine held_takeA 7 (by rfl) ?_ (by kernel_rfl) (fun _ _ _ h => h) hs6r ?_ ?_; rotate_left; (focus (intro wq hSw; have hrd : ∀ b' o, b' < w7.heap.size → b' ≠ q → wq.cell? ⟨b', o, none⟩ = w7.cell? ⟨b', o, none⟩ := (fun b' o h hne => grown_cell hSw h hne); go_simp; try with_reducible rfl; done)); try simp only [Act.put, List.setIfInBounds_toArray, List.set_cons_zero, List.set_cons_succ])
    (refine held_takeA 8 (by rfl) ?_ (by kernel_rfl) (fun _ _ _ h => h) hs6r ?_ ?_; rotate_left; (focus (intro wq hSw; have hrd : ∀ b' o, b' < w7.heap.size → b' ≠ q → wq.cell? ⟨b', o, none⟩ = w7.cell? ⟨b', o, none⟩ := (fun b' o h hne => grown_cell hSw h hne); go_simp; try with_reducible rfl; done)); try simp only [Act.put, List.setIfInBounds_toArray, List.set_cons_zero, List.set_cons_succ])
    (refine held_takeA 9 (by rfl) ?_ (by kernel_rfl) (fun _ _ _ h => h) hs6r ?_ ?_; rotate_left; (focus (intro wq hSw; have hrd : ∀ b' o, b' < w7.heap.size → b' ≠ q → wq.cell? ⟨b', o, none⟩ = w7.cell? ⟨b', o, none⟩ := (fun b' o h hne => grown_cell hSw h hne); go_simp; try with_reducible rfl; done)); try simp only [Act.put, List.setIfInBounds_toArray, List.set_cons_zero, List.set_cons_succ])
    (refine held_takeA 10 (by rfl) ?_ (by kernel_rfl) (fun _ _ _ h => h) hs6r ?_ ?_; rotate_left; (focus (intro wq hSw; have hrd : ∀ b' o, b' < w7.heap.size → b' ≠ q → wq.cell? ⟨b', o, none⟩ = w7.cell? ⟨b', o, none⟩ := (fun b' o h hne => grown_cell hSw h hne); go_simp; try with_reducible rfl; done)); try simp only [Act.put, List.setIfInBounds_toArray, List.set_cons_zero, List.set_cons_succ])
    (refine held_takeA 11 (by rfl) ?_ (by kernel_rfl) (fun _ _ _ h => h) hs6r ?_ ?_; rotate_left; (focus (intro wq hSw; have hrd : ∀ b' o, b' < w7.heap.size → b' ≠ q → wq.cell? ⟨b', o, none⟩ = w7.cell? ⟨b', o, none⟩ := (fun b' o h hne => grown_cell hSw h hne); go_simp; try with_reducible rfl; done)); try simp only [Act.put, List.setIfInBounds_toArray, List.set_cons_zero, List.set_cons_succ])
    (refine held_takeA 12 (by rfl) ?_ (by kernel_rfl) (fun _ _ _ h => h) hs6r ?_ ?_; rotate_left; (focus (intro wq hSw; have hrd : ∀ b' o, b' < w7.heap.size → b' ≠ q → wq.cell? ⟨b', o, none⟩ = w7.cell? ⟨b', o, none⟩ := (fun b' o h hne => grown_cell hSw h hne); go_simp; try with_reducible rfl; done)); try simp only [Act.put, List.setIfInBounds_toArray, List.set_cons_zero, List.set_cons_succ])
    (refine held_takeA 13 (by rfl) ?_ (by kernel_rfl) (fun _ _ _ h => h) hs6r ?_ ?_; rotate_left; (focus (intro wq hSw; have hrd : ∀ b' o, b' < w7.heap.size → b' ≠ q → wq.cell? ⟨b', o, none⟩ = w7.cell? ⟨b', o, none⟩ := (fun b' o h hne => grown_cell hSw h hne); go_simp; try with_reducible rfl; done)); try simp only [Act.put, List.setIfInBounds_toArray, List.set_cons_zero, List.set_cons_succ])
    (refine held_takeA 14 (by rfl) ?_ (by kernel_rfl) (fun _ _ _ h => h) hs6r ?_ ?_; rotate_left; (focus (intro wq hSw; have hrd : ∀ b' o, b' < w7.heap.size → b' ≠ q → wq.cell? ⟨b', o, none⟩ = w7.cell? ⟨b', o, none⟩ := (fun b' o h hne => grown_cell hSw h hne); go_simp; try with_reducible rfl; done)); try simp only [Act.put, List.setIfInBounds_toArray, List.set_cons_zero, List.set_cons_succ])
    (refine held_takeA 15 (by rfl) ?_ (by kernel_rfl) (fun _ _ _ h => h) hs6r ?_ ?_; rotate_left; (focus (intro wq hSw; have hrd : ∀ b' o, b' < w7.heap.size → b' ≠ q → wq.cell? ⟨b', o, none⟩ = w7.cell? ⟨b', o, none⟩ := (fun b' o h hne => grown_cell hSw h hne); go_simp; try with_reducible rfl; done)); try simp only [Act.put, List.setIfInBounds_toArray, List.set_cons_zero, List.set_cons_succ])
    (refine held_takeA 16 (by rfl) ?_ (by kernel_rfl) (fun _ _ _ h => h) hs6r ?_ ?_; rotate_left; (focus (intro wq hSw; have hrd : ∀ b' o, b' < w7.heap.size → b' ≠ q → wq.cell? ⟨b', o, none⟩ = w7.cell? ⟨b', o, none⟩ := (fun b' o h hne => grown_cell hSw h hne); go_simp; try with_reducible rfl; done)); try simp only [Act.put, List.setIfInBounds_toArray, List.set_cons_zero, List.set_cons_succ])
    (refine held_takeA 17 (by rfl) ?_ (by kernel_rfl) (fun _ _ _ h => h) hs6r ?_ ?_; rotate_left; (focus (intro wq hSw; have hrd : ∀ b' o, b' < w7.heap.size → b' ≠ q → wq.cell? ⟨b', o, none⟩ = w7.cell? ⟨b', o, none⟩ := (fun b' o h hne => grown_cell hSw h hne); go_simp; try with_reducible rfl; done)); try simp only [Act.put, List.setIfInBounds_toArray, List.set_cons_zero, List.set_cons_succ])
    (refine held_takeA 18 (by rfl) ?_ (by kernel_rfl) (fun _ _ _ h => h) hs6r ?_ ?_; rotate_left; (focus (intro wq hSw; have hrd : ∀ b' o, b' < w7.heap.size → b' ≠ q → wq.cell? ⟨b', o, none⟩ = w7.cell? ⟨b', o, none⟩ := (fun b' o h hne => grown_cell hSw h hne); go_simp; try with_reducible rfl; done)); try simp only [Act.put, List.setIfInBounds_toArray, List.set_cons_zero, List.set_cons_succ])
    (refine held_takeA 19 (by rfl) ?_ (by kernel_rfl) (fun _ _ _ h => h) hs6r ?_ ?_; rotate_left; (focus (intro wq hSw; have hrd : ∀ b' o, b' < w7.heap.size → b' ≠ q → wq.cell? ⟨b', o, none⟩ = w7.cell? ⟨b', o, none⟩ := (fun b' o h hne => grown_cell hSw h hne); go_simp; try with_reducible rfl; done)); try simp only [Act.put, List.setIfInBounds_toArray, List.set_cons_zero, List.set_cons_succ])
    (refine held_takeA 20 (by rfl) ?_ (by kernel_rfl) (fun _ _ _ h => h) hs6r ?_ ?_; rotate_left; (focus (intro wq hSw; have hrd : ∀ b' o, b' < w7.heap.size → b' ≠ q → wq.cell? ⟨b', o, none⟩ = w7.cell? ⟨b', o, none⟩ := (fun b' o h hne => grown_cell hSw h hne); go_simp; try with_reducible rfl; done)); try simp only [Act.put, List.setIfInBounds_toArray, List.set_cons_zero, List.set_cons_succ])
    (refine held_takeA 21 (by rfl) ?_ (by kernel_rfl) (fun _ _ _ h => h) hs6r ?_ ?_; rotate_left; (focus (intro wq hSw; have hrd : ∀ b' o, b' < w7.heap.size → b' ≠ q → wq.cell? ⟨b', o, none⟩ = w7.cell? ⟨b', o, none⟩ := (fun b' o h hne => grown_cell hSw h hne); go_simp; try with_reducible rfl; done)); try simp only [Act.put, List.setIfInBounds_toArray, List.set_cons_zero, List.set_cons_succ])
    (refine held_takeA 22 (by rfl) ?_ (by kernel_rfl) (fun _ _ _ h => h) hs6r ?_ ?_; rotate_left; (focus (intro wq hSw; have hrd : ∀ b' o, b' < w7.heap.size → b' ≠ q → wq.cell? ⟨b', o, none⟩ = w7.cell? ⟨b', o, none⟩ := (fun b' o h hne => grown_cell hSw h hne); go_simp; try with_reducible rfl; done)); try simp only [Act.put, List.setIfInBounds_toArray, List.set_cons_zero, List.set_cons_succ])
    (refine held_takeA 23 (by rfl) ?_ (by kernel_rfl) (fun _ _ _ h => h) hs6r ?_ ?_; rotate_left; (focus (intro wq hSw; have hrd : ∀ b' o, b' < w7.heap.size → b' ≠ q → wq.cell? ⟨b', o, none⟩ = w7.cell? ⟨b', o, none⟩ := (fun b' o h hne => grown_cell hSw h hne); go_simp; try with_reducible rfl; done)); try simp only [Act.put, List.setIfInBounds_toArray, List.set_cons_zero, List.set_cons_succ])
    (refine held_takeA 24 (by rfl) ?_ (by kernel_rfl) (fun _ _ _ h => h) hs6r ?_ ?_; rotate_left; (focus (intro wq hSw; have hrd : ∀ b' o, b' < w7.heap.size → b' ≠ q → wq.cell? ⟨b', o, none⟩ = w7.cell? ⟨b', o, none⟩ := (fun b' o h hne => grown_cell hSw h hne); go_simp; try with_reducible rfl; done)); try simp only [Act.put, List.setIfInBounds_toArray, List.set_cons_zero, List.set_cons_succ])
    (refine held_takeA 25 (by rfl) ?_ (by kernel_rfl) (fun _ _ _ h => h) hs6r ?_ ?_; rotate_left; (focus (intro wq hSw; have hrd : ∀ b' o, b' < w7.heap.size → b' ≠ q → wq.cell? ⟨b', o, none⟩ = w7.cell? ⟨b', o, none⟩ := (fun b' o h hne => grown_cell hSw h hne); go_simp; try with_reducible rfl; done)); try simp only [Act.put, List.setIfInBounds_toArray, List.set_cons_zero, List.set_cons_succ])
    (refine held_takeA 26 (by rfl) ?_ (by kernel_rfl) (fun _ _ _ h => h) hs6r ?_ ?_; rotate_left; (focus (intro wq hSw; have hrd : ∀ b' o, b' < w7.heap.size → b' ≠ q → wq.cell? ⟨b', o, none⟩ = w7.cell? ⟨b', o, none⟩ := (fun b' o h hne => grown_cell hSw h hne); go_simp; try with_reducible rfl; done)); try simp only [Act.put, List.setIfInBounds_toArray, List.set_cons_zero, List.set_cons_succ])
    (refine held_takeA 27 (by rfl) ?_ (by kernel_rfl) (fun _ _ _ h => h) hs6r ?_ ?_; rotate_left; (focus (intro wq hSw; have hrd : ∀ b' o, b' < w7.heap.size → b' ≠ q → wq.cell? ⟨b', o, none⟩ = w7.cell? ⟨b', o, none⟩ := (fun b' o h hne => grown_cell hSw h hne); go_simp; try with_reducible rfl; done)); try simp only [Act.put, List.setIfInBounds_toArray, List.set_cons_zero, List.set_cons_succ])
    (refine held_takeA 28 (by rfl) ?_ (by kernel_rfl) (fun _ _ _ h => h) hs6r ?_ ?_; rotate_left; (focus (intro wq hSw; have hrd : ∀ b' o, b' < w7.heap.size → b' ≠ q → wq.cell? ⟨b', o, none⟩ = w7.cell? ⟨b', o, none⟩ := (fun b' o h hne => grown_cell hSw h hne); go_simp; try with_reducible rfl; done)); try simp only [Act.put, List.setIfInBounds_toArray, List.set_cons_zero, List.set_cons_succ])
    (refine held_takeA 29 (by rfl) ?_ (by kernel_rfl) (fun _ _ _ h => h) hs6r ?_ ?_; rotate_left; (focus (intro wq hSw; have hrd : ∀ b' o, b' < w7.heap.size → b' ≠ q → wq.cell? ⟨b', o, none⟩ = w7.cell? ⟨b', o, none⟩ := (fun b' o h hne => grown_cell hSw h hne); go_simp; try with_reducible rfl; done)); try simp only [Act.put, List.setIfInBounds_toArray, List.set_cons_zero, List.set_cons_succ])
    (refine held_takeA 30 (by rfl) ?_ (by kernel_rfl) (fun _ _ _ h => h) hs6r ?_ ?_; rotate_left; (focus (intro wq hSw; have hrd : ∀ b' o, b' < w7.heap.size → b' ≠ q → wq.cell? ⟨b', o, none⟩ = w7.cell? ⟨b', o, none⟩ := (fun b' o h hne => grown_cell hSw h hne); go_simp; try with_reducible rfl; done)); try simp only [Act.put, List.setIfInBounds_toArray, List.set_cons_zero, List.set_cons_succ])
    (refine held_takeA 31 (by rfl) ?_ (by kernel_rfl) (fun _ _ _ h => h) hs6r ?_ ?_; rotate_left; (focus (intro wq hSw; have hrd : ∀ b' o, b' < w7.heap.size → b' ≠ q → wq.cell? ⟨b', o, none⟩ = w7.cell? ⟨b', o, none⟩ := (fun b' o h hne => grown_cell hSw h hne); go_simp; try with_reducible rfl; done)); try simp only [Act.put, List.setIfInBounds_toArray, List.set_cons_zero, List.set_cons_succ])
    (refine held_takeA 32 (by rfl) ?_ (by kernel_rfl) (fun _ _ _ h => h) hs6r ?_ ?_; rotate_left; (focus (intro wq hSw; have hrd : ∀ b' o, b' < w7.heap.size → b' ≠ q → wq.cell? ⟨b', o, none⟩ = w7.cell? ⟨b', o, none⟩ := (fun b' o h hne => grown_cell hSw h hne); go_simp; try with_reducible rfl; done)); try simp only [Act.put, List.setIfInBounds_toArray, List.set_cons_zero, List.set_cons_succ])
    (refine held_takeA 33 (by rfl) ?_ (by kernel_rfl) (fun _ _ _ h => h) hs6r ?_ ?_; rotate_left; (focus (intro wq hSw; have hrd : ∀ b' o, b' < w7.heap.size → b' ≠ q → wq.cell? ⟨b', o, none⟩ = w7.cell? ⟨b', o, none⟩ := (fun b' o h hne => grown_cell hSw h hne); go_simp; try with_reducible rfl; done)); try simp only [Act.put, List.setIfInBounds_toArray, List.set_cons_zero, List.set_cons_succ])
    refine held_callA 34 (by rfl) (by kernel_rfl) (by rfl) (fun KQ hKQ => ?_)
    go_simp
    obtain ⟨hrow8, hg8⟩ := rows_field (e := { r with sq := T.2.1 + 1 }) (i := 2) (u := .int .i64 (T.2.1 + 1)) (show Rows rpK w7.drew w.heap.size w.heap.size 250 (.slice (some ⟨q, 0, none⟩) k c5) (T.1 ++ M.drop j) from hrow7) (fun _ _ _ => trivial) hlenr.out hmk.out (by decide) rfl
    replace hrow8 : Rows rpK (w7.drew.setCell ⟨q, j * 4 + 2, none⟩ (.int .i64 (T.2.1 + 1))) w.heap.size w.heap.size 250 (.slice (some ⟨q, 0, none⟩) k c5) _ := hrow8
    replace hg8 : w7.drew.grownBy (w7.drew.setCell ⟨q, j * 4 + 2, none⟩ (.int .i64 (T.2.1 + 1))) (some q) := hg8
    have hd : (w7.setCell ⟨q, j * 4 + 2, none⟩ (.int .i64 (T.2.1 + 1))).drew = w7.drew.setCell ⟨q, j * 4 + 2, none⟩ (.int .i64 (T.2.1 + 1)) := rfl
    try rw [hd]
    clear hd
    generalize w7.drew.setCell ⟨q, j * 4 + 2, none⟩ (.int .i64 (T.2.1 + 1)) = w8 at *
    have hmk8 := Lib.hid (show ((T.1 ++ M.drop j).set j { r with sq := T.2.1 + 1 })[j]? = some { r with sq := T.2.1 + 1 } from List.getElem?_set_self (by rw [← hlenr.out]; exact hlt))
    have hlr8 := Lib.hid (show k = ((T.1 ++ M.drop j).set j { r with sq := T.2.1 + 1 }).length by rw [List.length_set]; exact hlenr.out)
    obtain ⟨-, b1, b2, b3, bf, -, bq⟩ := rp_row hrow8 hlr8.out hmk8.out
    have bf3 := bf (j * 4 + 3)
    replace bf := Lib.hid bf
    refine hKQ.out _ _ (grown_trans hs6r hg8) (held_mono (S' := fun w' => w8.grownBy w' (some q)) (fun w' h => grown_trans (grown_trans hs6r hg8) h) _ _ _ _ ?_)
    clear hKQ KQ
    have hs7r : w8.grownBy w8 (some q) := grown_refl _ _
    try simp only [Act.put]
    (refine held_takeA 35 (by rfl) ?_ (by kernel_rfl) (fun _ _ _ h => h) hs7r ?_ ?_; rotate_left; (focus (intro wq hSw; have hrd : ∀ b' o, b' < w8.heap.size → b' ≠ q → wq.cell? ⟨b', o, none⟩ = w8.cell? ⟨b', o, none⟩ := (fun b' o h hne => grown_cell hSw h hne); go_simp; try with_reducible rfl; done)); try simp only [Act.put, List.setIfInBounds_toArray, List.set_cons_zero, List.set_cons_succ])
    (refine held_takeA 36 (by rfl) ?_ (by kernel_rfl) (fun _ _ _ h => h) hs7r ?_ ?_; rotate_left; (focus (intro wq hSw; have hrd : ∀ b' o, b' < w8.heap.size → b' ≠ q → wq.cell? ⟨b', o, none⟩ = w8.cell? ⟨b', o, none⟩ := (fun b' o h hne => grown_cell hSw h hne); go_simp; try with_reducible rfl; done)); try simp only [Act.put, List.setIfInBounds_toArray, List.set_cons_zero, List.set_cons_succ])
    refine held_callA 37 (by rfl) (by kernel_rfl) (by rfl) (fun KQ hKQ => ?_)
    go_simp
    obtain ⟨hrow9, hg9⟩ := rows_field (e := { r with sq := T.2.1 + 1, at_ := no + 1 }) (i := 3) (u := .int .i64 (no + 1)) hrow8 (fun _ _ _ => trivial) hlr8.out hmk8.out (by decide) rfl
    rw [List.set_set] at hrow9
    replace hrow9 : Rows rpK (w8.setCell ⟨q, j * 4 + 3, none⟩ (.int .i64 (no + 1))) w.heap.size w.heap.size 250 (.slice (some ⟨q, 0, none⟩) k c5) _ := hrow9
    replace hg9 : w8.grownBy (w8.setCell ⟨q, j * 4 + 3, none⟩ (.int .i64 (no + 1))) (some q) := hg9
    generalize w8.setCell ⟨q, j * 4 + 3, none⟩ (.int .i64 (no + 1)) = w9 at *
    have hmk9 := Lib.hid (show ((T.1 ++ M.drop j).set j { r with sq := T.2.1 + 1, at_ := no + 1 })[j]? = some { r with sq := T.2.1 + 1, at_ := no + 1 } from List.getElem?_set_self (by rw [← hlenr.out]; exact hlt))
    have hlr9 := Lib.hid (show k = ((T.1 ++ M.drop j).set j { r with sq := T.2.1 + 1, at_ := no + 1 }).length by rw [List.length_set]; exact hlenr.out)
    obtain ⟨-, d1', d2', d3', df, -, dq⟩ := rp_row hrow9 hlr9.out hmk9.out
    have df1 := df (j * 4 + 1)
    replace df := Lib.hid df
    refine hKQ.out _ _ (grown_trans hs7r hg9) (held_mono (S' := fun w' => w9.grownBy w' (some q)) (fun w' h => grown_trans (grown_trans hs7r hg9) h) _ _ _ _ ?_)
    clear hKQ KQ
    have hs8r : w9.grownBy w9 (some q) := grown_refl _ _
    try simp only [Act.put]
    (refine held_takeA 38 (by rfl) ?_ (by kernel_rfl) (fun _ _ _ h => h) hs8r ?_ ?_; rotate_left; (focus (intro wq hSw; have hrd : ∀ b' o, b' < w9.heap.size → b' ≠ q → wq.cell? ⟨b', o, none⟩ = w9.cell? ⟨b', o, none⟩ := (fun b' o h hne => grown_cell hSw h hne); go_simp; try with_reducible rfl; done)); try simp only [Act.put, List.setIfInBounds_toArray, List.set_cons_zero, List.set_cons_succ])
    (refine held_takeA 39 (by rfl) ?_ (by kernel_rfl) (fun _ _ _ h => h) hs8r ?_ ?_; rotate_left; (focus (intro wq hSw; have hrd : ∀ b' o, b' < w9.heap.size → b' ≠ q → wq.cell? ⟨b', o, none⟩ = w9.cell? ⟨b', o, none⟩ := (fun b' o h hne => grown_cell hSw h hne); go_simp; try with_reducible rfl; done)); try simp only [Act.put, List.setIfInBounds_toArray, List.set_cons_zero, List.set_cons_succ])
    refine held_callA 40 (by rfl) (by kernel_rfl) (by rfl) (fun KQ hKQ => ?_)
    go_simp
    obtain ⟨hrow10, hg10⟩ := rows_field (e := askR (no + 1) ev T.2.1 r) (i := 1) (u := .int .i64 (no + 1 + ev)) hrow9 (fun _ _ _ => trivial) hlr9.out hmk9.out (by decide) rfl
    rw [List.set_set, hms.out] at hrow10
    replace hrow10 : Rows rpK (w9.setCell ⟨q, j * 4 + 1, none⟩ (.int .i64 (no + 1 + ev))) w.heap.size w.heap.size 250 (.slice (some ⟨q, 0, none⟩) k c5) _ := hrow10
    replace hg10 : w9.grownBy (w9.setCell ⟨q, j * 4 + 1, none⟩ (.int .i64 (no + 1 + ev))) (some q) := hg10
    generalize w9.setCell ⟨q, j * 4 + 1, none⟩ (.int .i64 (no + 1 + ev)) = w10 at *
    refine hKQ.out _ _ (grown_trans hs8r hg10) (held_mono (S' := fun w' => w10.grownBy w' (some q)) (fun w' h => grown_trans (grown_trans hs8r hg10) h) _ _ _ _ ?_)
    clear hKQ KQ
    have hs9r : w10.grownBy w10 (some q) := grown_refl _ _
    try simp only [Act.put]
    refine wpAnyH_done (by kernel_rfl) ?_ _
    try refine NoPanic.normal ?_
    go_upto_region 19 with (fail)
    have hC710 : Chg w7 w10 (fun k => k = q) := Chg.of_grown (grown_trans (grown_drew (grown_refl w7 (some q))) (grown_trans hg8 (grown_trans hg9 hg10))) rfl
    have hq10 := hC710.blk hq7 hdq
    have hqx10 := hC710.blk hqx7 qs
    have hlv10 := row_chg hlv7 (fun _ _ _ => trivial) hC710 fun b e q2 => own_ne_own hlv7.1 hrow7.1 (by decide) b e (by rw [q2]; rfl)
    have hav10 := row_chg hav7 (fun _ _ _ => trivial) hC710 fun b e q2 => own_ne_own hav7.1 hrow7.1 (by decide) b e (by rw [q2]; rfl)
    have hC10 : Chg w w10 (fun k => k = d) := hC7.trans hC710 (fun i hi q2 => by omega)
    have hz10 : zB ≤ w10.heap.size := by have := hC710.size; omega
    clear k0 k2 k3 k4 a0 a1 a2 a3 af2 af3 af1 b1 b2 b3 bf3 d1' d2' d3' df1 hg8 hg9 hg10 hrow7 hrow8 hrow9 hq7 hqx7 hlv7 hav7 hC7 hC710 ltd7 aq1 aq2 bq dq hmk8 hmk9 hlr8 hlr9
    have s0 : w10.cell? ⟨wt.heap.size, 0, none⟩ = some (.int .i64 r.id) := hqx10.cellv 0 rfl
    have k3 : w10.cell? ⟨d, 3, none⟩ = some (.int .i64 (T.2.1 + 1)) := hq10.cellv 3 rfl
    have ltd10 := hq10.lt
    have lts := hqx10.lt
    have ua := own_ne_blk hav10.1 hq10 (by decide)
    have ux := own_ne_blk hav10.1 hqx10 (by decide)
    -- region 19: 0 1 2 3 4 5 6 7 8M 9M 10
    try refine wp_region_noPanic ?_
    have hs10r : (fun w' => Chg w10 w' (fun k => u4.ownBlock = some k)) w10.drew := Chg.of_below (Below.refl _ _).drew
    refine wp_region_held_drew (S := fun w' => Chg w10 w' (fun k => u4.ownBlock = some k)) (by kernel_rfl) hs10r (fun _ => ?_)
    (refine held_takeA 0 (by rfl) ?_ (by kernel_rfl) (fun _ _ _ h => h) hs10r ?_ ?_; rotate_left; (focus (intro wq hSw; have hrd := hSw; have hrd2 : ∀ b' o, b' < w10.heap.size → u4.ownBlock ≠ some b' → wq.cell? ⟨b', o, none⟩ = w10.cell? ⟨b', o, none⟩ := (fun b' o h hne => Chg.cell hSw (p := ⟨b', o, none⟩) h hne); go_simp; try with_reducible rfl; done)); try simp only [Act.put, List.setIfInBounds_toArray, List.set_cons_zero, List.set_cons_succ])
    (refine held_takeA 1 (by rfl) ?_ (by kernel_rfl) (fun _ _ _ h => h) hs10r ?_ ?_; rotate_left; (focus (intro wq hSw; have hrd := hSw; have hrd2 : ∀ b' o, b' < w10.heap.size → u4.ownBlock ≠ some b' → wq.cell? ⟨b', o, none⟩ = w10.cell? ⟨b', o, none⟩ := (fun b' o h hne => Chg.cell hSw (p := ⟨b', o, none⟩) h hne); go_simp; try with_reducible rfl; done)); try simp only [Act.put, List.setIfInBounds_toArray, List.set_cons_zero, List.set_cons_succ])
    (refine held_takeA 2 (by rfl) ?_ (by kernel_rfl) (fun _ _ _ h => h) hs10r ?_ ?_; rotate_left; (focus (intro wq hSw; have hrd := hSw; have hrd2 : ∀ b' o, b' < w10.heap.size → u4.ownBlock ≠ some b' → wq.cell? ⟨b', o, none⟩ = w10.cell? ⟨b', o, none⟩ := (fun b' o h hne => Chg.cell hSw (p := ⟨b', o, none⟩) h hne); go_simp; try with_reducible rfl; done)); try simp only [Act.put, List.setIfInBounds_toArray, List.set_cons_zero, List.set_cons_succ])
    (refine held_takeA 3 (by rfl) ?_ (by kernel_rfl) (fun _ _ _ h => h) hs10r ?_ ?_; rotate_left; (focus (intro wq hSw; have hrd := hSw; have hrd2 : ∀ b' o, b' < w10.heap.size → u4.ownBlock ≠ some b' → wq.cell? ⟨b', o, none⟩ = w10.cell? ⟨b', o, none⟩ := (fun b' o h hne => Chg.cell hSw (p := ⟨b', o, none⟩) h hne); go_simp; try with_reducible rfl; done)); try simp only [Act.put, List.setIfInBounds_toArray, List.set_cons_zero, List.set_cons_succ])
    (refine held_takeA 4 (by rfl) ?_ (by kernel_rfl) (fun _ _ _ h => h) hs10r ?_ ?_; rotate_left; (focus (intro wq hSw; have hrd := hSw; have hrd2 : ∀ b' o, b' < w10.heap.size → u4.ownBlock ≠ some b' → wq.cell? ⟨b', o, none⟩ = w10.cell? ⟨b', o, none⟩ := (fun b' o h hne => Chg.cell hSw (p := ⟨b', o, none⟩) h hne); go_simp; try with_reducible rfl; done)); try simp only [Act.put, List.setIfInBounds_toArray, List.set_cons_zero, List.set_cons_succ])
    (refine held_takeA 5 (by rfl) ?_ (by kernel_rfl) (fun _ _ _ h => h) hs10r ?_ ?_; rotate_left; (focus (intro wq hSw; have hrd := hSw; have hrd2 : ∀ b' o, b' < w10.heap.size → u4.ownBlock ≠ some b' → wq.cell? ⟨b', o, none⟩ = w10.cell? ⟨b', o, none⟩ := (fun b' o h hne => Chg.cell hSw (p := ⟨b', o, none⟩) h hne); go_simp; try with_reducible rfl; done)); try simp only [Act.put, List.setIfInBounds_toArray, List.set_cons_zero, List.set_cons_succ])
    (refine held_takeA 6 (by rfl) ?_ (by kernel_rfl) (fun _ _ _ h => h) hs10r ?_ ?_; rotate_left; (focus (intro wq hSw; have hrd := hSw; have hrd2 : ∀ b' o, b' < w10.heap.size → u4.ownBlock ≠ some b' → wq.cell? ⟨b', o, none⟩ = w10.cell? ⟨b', o, none⟩ := (fun b' o h hne => Chg.cell hSw (p := ⟨b', o, none⟩) h hne); go_simp; try with_reducible rfl; done)); try simp only [Act.put, List.setIfInBounds_toArray, List.set_cons_zero, List.set_cons_succ])
    (refine held_takeA 7 (by rfl) ?_ (by kernel_rfl) (fun _ _ _ h => h) hs10r ?_ ?_; rotate_left; (focus (intro wq hSw; have hrd := hSw; have hrd2 : ∀ b' o, b' < w10.heap.size → u4.ownBlock ≠ some b' → wq.cell? ⟨b', o, none⟩ = w10.cell? ⟨b', o, none⟩ := (fun b' o h hne => Chg.cell hSw (p := ⟨b', o, none⟩) h hne); go_simp; try with_reducible rfl; done)); try simp only [Act.put, List.setIfInBounds_toArray, List.set_cons_zero, List.set_cons_succ])
    refine held_callA 8 (by rfl) (by kernel_rfl) (by rfl) (fun KQ hKQ => ?_)
    go_simp
    have hb7 : Below w10.heap.size w10 (w10.drew.alloc (.cells #[.int .i64 r.id, .int .i64 (T.2.1 + 1)] 225)) := (Below.refl w10.heap.size w10).drew.alloc (Nat.le_refl _) (.cells #[.int .i64 r.id, .int .i64 (T.2.1 + 1)] 225)
    have hav11 := hav10.below hb7
    have hseen : Seen prK (w10.drew.alloc (.cells #[.int .i64 r.id, .int .i64 (T.2.1 + 1)] 225)) (fun _ => True) (some ⟨w10.heap.size, 0, none⟩) 1 [(r.id, T.2.1 + 1)] := seen_one (R := prK) (S := fun _ => False) (S' := fun _ => True) w10.drew 225 (r.id, T.2.1 + 1) #[.int .i64 r.id, .int .i64 (T.2.1 + 1)] rfl trivial (fun _ h => h.elim) trivial (fun _ h => h.elim)
    have hz11 : zB ≤ (w10.drew.alloc (.cells #[.int .i64 r.id, .int .i64 (T.2.1 + 1)] 225)).heap.size   := Nat.le_trans hz10 hb7.size
    have hd : (w10.alloc (.cells #[.int .i64 r.id, .int .i64 (T.2.1 + 1)] 225)).drew = w10.drew.alloc (.cells #[.int .i64 r.id, .int .i64 (T.2.1 + 1)] 225) := rfl
    try rw [hd]
    clear hd
    generalize w10.drew.alloc (.cells #[.int .i64 r.id, .int .i64 (T.2.1 + 1)] 225) = w11 at *
    have hC11 : Chg w10 w11 (fun k => u4.ownBlock = some k) := Chg.of_below hb7
    have hs11r := hC11
    refine hKQ.out _ _ hs11r ?_
    clear hKQ KQ
    try simp only [Act.put, List.setIfInBounds_toArray, List.set_cons_zero, List.set_cons_succ]
    refine held_callA 9 (by rfl) (by kernel_rfl) (by rfl) (fun KQ hKQ => ?_)
    refine wp_rows pr_ok24 (.tmp 136) (.tmp 144) (by rfl) hav11 (by rfl) (by rfl) hseen (fun _ _ => trivial) (by unfold maxLen; omega) (by omega) hz11 ?_
    intro v12 w12 hav12 hg12
    have hC12 : Chg w10 w12 (fun k => u4.ownBlock = some k) := hC11.trans (Chg.of_grownO hg12 fun _ e => e) fun _ _ q => q
    have hs12r := hC12
    refine hKQ.out _ _ hs12r ?_
    clear hKQ KQ
    try simp only [Act.put, List.setIfInBounds_toArray, List.set_cons_zero, List.set_cons_succ]
    (refine held_takeA 10 (by rfl) ?_ (by kernel_rfl) (fun _ _ _ h => h) hs12r ?_ ?_; rotate_left; (focus (intro wq hSw; have hrd := hSw; have hrd2 : ∀ b' o, b' < w10.heap.size → u4.ownBlock ≠ some b' → wq.cell? ⟨b', o, none⟩ = w10.cell? ⟨b', o, none⟩ := (fun b' o h hne => Chg.cell hSw (p := ⟨b', o, none⟩) h hne); go_simp; try with_reducible rfl; done)); try simp only [Act.put, List.setIfInBounds_toArray, List.set_cons_zero, List.set_cons_succ])
    refine wpAnyH_done (by kernel_rfl) ?_ _
    try refine NoPanic.normal ?_
    go_wp2_with fail
    have hq12 := hC12.blk hq10 ua
    have hrow12 := row_chg hrow10 (fun _ _ _ => trivial) hC12 (own_ne_own hrow10.1 hav10.1 (by decide))
    have hlv12 := row_chg hlv10 (fun _ _ _ => trivial) hC12 hsep
    have hCC : Chg w w12 (fun k => k = d) := hC10.trans hC12 (fun i hi q2 => by have := (hav10.1.lt i q2).1; omega)
    exact ⟨⟨j + 1, by omega, by go_num, by rw [hv.out]; exact hq12, by rw [hv.out]; exact hrow12, by rw [hv.out]; exact hav12, hlv12, Nat.le_trans hz10 hC12.size, hCC⟩, by simp [intOf]; omega⟩
  obtain rfl : j = k := by omega
  have hta := Lib.hid (show M.take j = M from List.take_of_length_le (by have := hn1.out; omega))
  have hdr := Lib.hid (show M.drop j = [] from List.drop_of_length_le (by have := hn1.out; omega))
  have hki : decide ((j : Int) < (j : Int)) = false := by simp
  have hra := own_ne_own hrow.1 hav.1 (by decide)
  have hrl := own_ne_own hrow.1 hlv.1 (by decide)
  have hda := own_ne_blk hav.1 hq (by decide)
  have hdl := own_ne_blk hlv.1 hq (by decide)
  have hdr2 := own_ne_blk hrow.1 hq (by decide)
  have hrol := hrow.1.lt
  have ltd := hq.lt
  replace hlen1 := True.intro
  replace hlenr := True.intro
  go_wp2_with fail
  go_ret2
  have e2 : T = askAll (no + 1) ev sq (tick1 no pa L) := by rw [hT.out, hta.out, hM.out]
  rw [hdr.out, List.append_nil, e2] at hrow
  rw [e2] at hq hav
  rw [hZ1.out] at hlv
  refine ⟨lv, u4, rfl, hlv, hav.less hwB hwB, fun b => b = d ∨ (Value.slice A5 j c5).ownBlock = some b, ⟨_, hq, hrow.less (Nat.zero_le _) (Nat.zero_le _), hdr2, fun _ q => q, ?_⟩, ?_, ?_, hC.mono fun i _ q => by rw [q]; exact hYd⟩
  · rintro b (q | q)
    · subst q; exact ltd
    · exact (hrol b q).2
  · rintro b (q | q)
    · subst q; exact .inl hYd
    · exact .inr (hrol b q).1
  · rintro b e (q | q)
    · subst q
      rcases e with e | e
      · exact hdl e
      · exact hda e
    · rcases e with e | e
      · exact hrl b q e
      · exact hra b q e
end Go.Proofs.Ytejgekoinbdhjaa
