/- probe: the document's scheduler: Copy, Add, Remove. -/
import Derived.Test.YtejgekoinbdhjaaPrM
namespace Go.Proofs.Ytejgekoinbdhjaa
set_option linter.unusedVariables false
open Go Go.RowKit Go.Maps

theorem take_cut {L : List Pr} {id : Int} {k : Nat} (h : ∀ j r, j < k → L[j]? = some r → r.id < id) (hs : ∀ r, L[k]? = some r → ¬ r.id < id) (hk : k ≤ L.length) :
    L.takeWhile (fun r => decide (r.id < id)) = L.take k ∧ L.dropWhile (fun r => decide (r.id < id)) = L.drop k := by
  induction L generalizing k with
  | nil => simp at hk; subst hk; exact ⟨rfl, rfl⟩
  | cons a L ih =>
    cases k with
    | zero =>
      have := hs a rfl
      exact ⟨by rw [List.takeWhile_cons_of_neg (by simpa using this)]; rfl, by rw [List.dropWhile_cons_of_neg (by simpa using this)]; rfl⟩
    | succ k =>
      have h0 := h 0 a (by omega) rfl
      obtain ⟨h1, h2⟩ := ih (k := k) (fun j r hj hr => h (j + 1) r (by omega) (by simpa using hr)) (fun r hr => hs r (by simpa using hr)) (by simpa using hk)
      exact ⟨by rw [List.takeWhile_cons_of_pos (by simpa using h0), h1]; rfl, by rw [List.dropWhile_cons_of_pos (by simpa using h0), h2]; rfl⟩
theorem find_cut {L : List Pr} {id : Int} {k : Nat} (hd : Dist L) (h : ∀ j r, j < k → L[j]? = some r → r.id < id) (hs : ∀ r, L[k]? = some r → id < r.id) : ∀ a ∈ L, a.id ≠ id := fun a ha e => by
  obtain ⟨j, hj⟩ := List.getElem?_of_mem ha
  rcases Nat.lt_trichotomy j k with q | q | q
  · have := h j a q hj; omega
  · subst q; have := hs a hj; omega
  · have hjl := (List.getElem?_eq_some_iff.1 hj).1
    have hkl : k < L.length := by omega
    have h1 := hs _ (List.getElem?_eq_getElem hkl)
    unfold Dist at hd
    rw [List.pairwise_iff_getElem] at hd
    have h2 := hd k j hkl hjl q
    obtain ⟨_, rfl⟩ := List.getElem?_eq_some_iff.1 hj
    omega
theorem rem_at {L : List Pr} {k : Nat} {r : Pr} (hd : Dist L) (hr : L[k]? = some r) : remP L r.id = L.eraseIdx k := by
  obtain ⟨hl, rfl⟩ := List.getElem?_eq_some_iff.1 hr
  rw [List.eraseIdx_eq_take_drop_succ]
  have e : L = L.take k ++ L[k] :: L.drop (k + 1) := by rw [← List.drop_eq_getElem_cons hl, List.take_append_drop]
  have hd2 := hd
  rw [e] at hd2
  have h1 := dist_mid hd2
  unfold Dist at hd2
  rw [List.pairwise_append, List.pairwise_cons] at hd2
  unfold remP
  generalize hx : L[k] = x at *
  conv => lhs; rw [e]
  rw [List.filter_append, List.filter_cons_of_neg (by simp), List.filter_eq_self.2 (fun a ha => by simpa using h1 a ha), List.filter_eq_self.2 (fun a ha => by have := hd2.2.1.1 a ha; simp; omega)]
theorem rem_none {L : List Pr} {id : Int} (h : ∀ a ∈ L, a.id ≠ id) : remP L id = L := List.filter_eq_self.2 fun a ha => by simpa using h a ha
set_option maxRecDepth 100000 in
set_option maxHeartbeats 8000000 in
theorem refCopy24 (w : World) (Y : Nat → Prop) (d : Nat) (ev pa no sq : Int) (L : List Pr) (h : RefP w Y d ev pa no sq L) (hn : L.length ≤ 100000) :
    Calls Try.prog 85 #[.pointer (some ⟨d, 0, none⟩)] w fun e w' => ∃ d2 Y', e = .returned (.pointer (some ⟨d2, 0, none⟩)) ∧ RefP w' Y' d2 ev pa no sq L ∧ (∀ k, Y' k → w.heap.size ≤ k) ∧ Below w.heap.size w w' := by
  obtain ⟨v, h1, h2, h3, h4, h5⟩ := h
  obtain ⟨A, c, rfl, hnc, hcm, hS⟩ := h2.seen (Nat.le_refl _)
  have c0 : w.cell? ⟨d, 0, none⟩ = some (.int .i64 ev) := h1.cellv 0 rfl
  have c1 : w.cell? ⟨d, 1, none⟩ = some (.int .i64 pa) := h1.cellv 1 rfl
  have c2 : w.cell? ⟨d, 2, none⟩ = some (.int .i64 no) := h1.cellv 2 rfl
  have c3 : w.cell? ⟨d, 3, none⟩ = some (.int .i64 sq) := h1.cellv 3 rfl
  have c4 : w.cell? ⟨d, 4, none⟩ = some (.slice A L.length c) := h1.cellv 4 rfl
  have ltd := h1.lt
  have hS0 := hS.more (S' := fun b => b < w.heap.size) fun b q => q.2
  obtain ⟨n, hn2⟩ : ∃ n, n = L.length := ⟨_, rfl⟩
  rw [← hn2] at c4 hS0 hn hnc h1 h2 h3 h4
  replace hn2 := Lib.hid hn2
  clear hS
  clear h2 h4 h5 h3
  have hb1 := (Below.refl w.heap.size w).alloc (Nat.le_refl _) (.cells #[.int .i64 ev, .int .i64 pa, .int .i64 no, .int .i64 sq, .slice A n c] 228)
  have hq1 := Blk.new w 228 #[.int .i64 ev, .int .i64 pa, .int .i64 no, .int .i64 sq, .slice A n c]
  go_enter Try.func85, Try.ntmps85
  go_upto_region 2 with (fail)
  have c14 : (w.alloc (.cells #[.int .i64 ev, .int .i64 pa, .int .i64 no, .int .i64 sq, .slice A n c] 228)).cell? ⟨d, 4, none⟩ = some (.slice A n c) := (hb1.cell (p := ⟨d, 4, none⟩) ltd).trans c4
  have hz1 := hb1.size
  have hS1 := hS0.below hb1 fun b q => q
  clear c0 c1 c2 c3 c4
  generalize w.alloc (.cells #[.int .i64 ev, .int .i64 pa, .int .i64 no, .int .i64 sq, .slice A n c] 228) = w1 at *
  have ltd1 : d < w1.heap.size := Nat.lt_of_lt_of_le ltd hz1
  have hb2 := (Below.refl w1.heap.size w1).alloc (Nat.le_refl _) (.cells #[] 250)
  have hr0 := rp_lit w1
  have hS2 := hS1.below hb2 fun b q => Nat.lt_of_lt_of_le q hz1
  have hz2 := hb2.size
  go_wp2_with (at_builtin; refine wpList_rows rp_ok rfl (.tmp 7) (.tmp 11) rfl hr0 rfl rfl hS2 (fun _ _ => trivial) (by unfold maxLen; simp; omega) (by simp; omega) hz2 ?_; intro v4 w4 hv4 hg4; rw [List.nil_append] at hv4; have hb4 := hb2.trans (hr0.below_app hg4 hz2); obtain ⟨A4, k4, e4, -⟩ := hv4.1.any; rw [← hn2.out] at e4; subst e4; have hq4 := hq1.below hb4 hq1.lt; have l4 := hq4.lt; have cc4 := hq4.cellv 4 rfl; have f4 := hq4.frozen 4)
  go_ret
  obtain ⟨hq5, hg5⟩ := blk_store hq4 4 (.slice A4 n k4)
  have hv4l := hv4.1.lt
  have hne : (Value.slice A4 n k4).ownBlock ≠ some w.heap.size := fun e => by have := (hv4l _ e).1; have := hq1.lt; omega
  have hz4 := hb4.size
  have hB := hb1.trans (hb4.mono hz1)
  have hl1 := hq1.lt
  refine ⟨_, fun k => k = w.heap.size ∨ (Value.slice A4 n k4).ownBlock = some k, rfl, ⟨_, hq5, ⟨(hv4.less (Nat.zero_le _) (Nat.zero_le _)).1.kept hg5 (.inr hne), fun _ _ => trivial⟩, hne, fun _ q => q, ?_⟩, ?_, hB.grown hg5 hB.size (fun k e => by injection e with e; omega)⟩
  · rintro k (q | q)
    · have := hq5.lt; omega
    · have := (hv4l _ q).2; have := hg5.size; omega
  · rintro k (q | q)
    · omega
    · have := (hv4l _ q).1; omega
set_option maxRecDepth 100000 in
set_option maxHeartbeats 8000000 in
theorem refRem24 (w : World) (Y : Nat → Prop) (d : Nat) (ev pa no sq : Int) (L : List Pr) (h : RefP w Y d ev pa no sq L) (hn : L.length ≤ 100000) (hdist : Dist L) (id : Int) :
    Calls Try.prog 162 #[.pointer (some ⟨d, 0, none⟩), .int .i64 id] w fun e w' => e = .returned (.bool (findP L id).isSome) ∧ ∃ Y', RefP w' Y' d ev pa no sq (remP L id) ∧ (∀ k, Y' k → Y k ∨ w.heap.size ≤ k) ∧ Chg w w' Y := by
  obtain ⟨v, h1, h2, h3, h4, h5⟩ := h
  obtain ⟨A, c, rfl, hnc, hcm, hS⟩ := h2.seen (Nat.le_refl _)
  have c0 : w.cell? ⟨d, 0, none⟩ = some (.int .i64 ev) := h1.cellv 0 rfl
  have c1 : w.cell? ⟨d, 1, none⟩ = some (.int .i64 pa) := h1.cellv 1 rfl
  have c2 : w.cell? ⟨d, 2, none⟩ = some (.int .i64 no) := h1.cellv 2 rfl
  have c3 : w.cell? ⟨d, 3, none⟩ = some (.int .i64 sq) := h1.cellv 3 rfl
  have c4 : w.cell? ⟨d, 4, none⟩ = some (.slice A L.length c) := h1.cellv 4 rfl
  have ltd := h1.lt
  have hS0 := hS.more (S' := fun b => b < w.heap.size) fun b q => q.2
  obtain ⟨n, hn2⟩ : ∃ n, n = L.length := ⟨_, rfl⟩
  rw [← hn2] at c4 hS0 hn hnc h1 h2 h3 h4
  replace hn2 := Lib.hid hn2
  clear hS
  go_enter Try.func162, Try.ntmps162
  go_wp2_with fail
  go_loopw [12] (fun i wr => ∃ k : Nat, k ≤ n ∧ i = .int .i64 (k : Int) ∧ (∀ j x, j < k → L[j]? = some x → x.id ≠ id) ∧ Below w.heap.size w wr) (fun i _ => n - (intOf i).toNat)
  case atStart => exact ⟨0, Nat.zero_le _, rfl, fun j x hj => by omega, Below.refl _ _⟩
  case round =>
  generalize wr = wo at *
  obtain ⟨k, hk, rfl, hf, hB⟩ := hrel
  have hz := hB.size
  replace hf := Lib.hid hf
  by_cases hlt : k < n
  rotate_left
  · obtain rfl : k = n := by omega
    have hno' : ∀ a ∈ L, a.id ≠ id := fun a ha => by
      obtain ⟨j, hj⟩ := List.getElem?_of_mem ha
      exact hf.out j a (by have := (List.getElem?_eq_some_iff.1 hj).1; have := hn2.out; omega) hj
    have hR : RefP w Y d ev pa no sq L := ⟨_, h1, h2, h3, h4, h5⟩
    have e1 := Lib.hid (findP_none hno')
    have e2 := Lib.hid (rem_none hno')
    clear hno'
    go_wp2_with fail
    go_ret
    rw [e1.out, e2.out]
    exact ⟨rfl, Y, hR.nx hB, fun k q => .inl q, Chg.of_below hB⟩
  obtain ⟨b, off, r, hA, hb1, hrk, e0, e1, e2, e3⟩ := rp_cells (hS0.below hB (fun _ q => q)) hlt
  have ltb : b < wo.heap.size := Nat.lt_of_lt_of_le hb1 hz
  have hki : (k : Int) < n := by omega
  have hB2 := hB.alloc hz (.cells #[.int .i64 r.id, .int .i64 r.nx, .int .i64 r.sq, .int .i64 r.at_] 250)
  obtain ⟨A1, hs1, hr1⟩ := row_take elem_rp size_rp A n c k (by omega) hnc
  obtain ⟨A2, hs2, hr2⟩ := row_drop elem_rp size_rp A n c (k + 1) (by omega) hnc
  rw [show ((k + 1 : Nat) : Int) = (k : Int) + 1 by omega] at hs2
  subst hA
  by_cases hx : r.id = id
  rotate_left
  · have hbx : (r.id == id) = false := by simpa using hx
    have hv : ∀ j x, j < k + 1 → L[j]? = some x → x.id ≠ id := fun j x hj hr => by
      by_cases e : j = k
      · rw [e, hrk] at hr; injection hr with hr; rw [← hr]; exact hx
      · exact hf.out j x (by omega) hr
    replace hv := Lib.hid hv
    replace hx := Lib.hid hx
    clear hs1 hs2 hr1 hr2
    go_wp2_with fail
    exact ⟨⟨k + 1, by omega, by go_num, hv.out, hB2⟩, by simp [intOf]; omega⟩
  have hbx : (r.id == id) = true := by simpa using hx
  have hv := Lib.hid (show (findP L id).isSome = true ∧ remP L id = L.eraseIdx k by rw [← hx]; exact ⟨by rw [findP_some hdist (List.mem_of_getElem? hrk)]; rfl, rem_at hdist hrk⟩)
  replace hx := Lib.hid hx
  replace hrk := Lib.hid hrk
  go_upto_region 5 with (fail)
  clear e0 e1 e2 e3 c0 c1 c2 c3 c4
  generalize wo.alloc (.cells #[.int .i64 r.id, .int .i64 r.nx, .int .i64 r.sq, .int .i64 r.at_] 250) = w2 at *
  have hS2 := hS0.below hB2 (fun _ q => q)
  have hSa := hr1 _ _ _ hS2
  have hSb := hr2 _ _ _ hS2
  have hz2 := hB2.size
  have hq := h1.below hB2 ltd
  have c4 : w2.cell? ⟨d, 4, none⟩ = some (.slice (some ⟨b, off, none⟩) n c) := hq.cellv 4 rfl
  have ltd2 := hq.lt
  have kw : IntKind.i64.wrap ((k : Int) + 1) = (k : Int) + 1 := IntWalk.i64_in _ (by omega)
  clear hr1 hr2 hS2 hS0
  -- region 5: 0 1M 2 3 4 5 6 7 8M 9 10 11 12 13 14 15 16M 17 18 19M
  try refine wp_region_noPanic ?_
  have hs1r : (fun w' => Below w2.heap.size w2 w') w2.drew := (Below.refl _ _).drew
  refine wp_region_E 19 (S := fun w' => Below w2.heap.size w2 w') (by kernel_rfl) hs1r (fun _ => ?_)
  (refine e_takeA 0 (by rfl) ?_ (by kernel_rfl) (fun _ _ _ h => h) hs1r ?_ ?_; rotate_left; (focus (intro wq hSw; have hrd := hSw; have hrd2 : ∀ b o, b < w2.heap.size → wq.cell? ⟨b, o, none⟩ = w2.cell? ⟨b, o, none⟩ := (fun b o h => Below.cell hSw (p := ⟨b, o, none⟩) h); go_simp; try with_reducible rfl; done)); try simp only [Act.put, List.setIfInBounds_toArray, List.set_cons_zero, List.set_cons_succ])
  (refine e_takeA 2 (by rfl) ?_ (by kernel_rfl) (fun _ _ _ h => h) hs1r ?_ ?_; rotate_left; (focus (intro wq hSw; have hrd := hSw; have hrd2 : ∀ b o, b < w2.heap.size → wq.cell? ⟨b, o, none⟩ = w2.cell? ⟨b, o, none⟩ := (fun b o h => Below.cell hSw (p := ⟨b, o, none⟩) h); go_simp; try with_reducible rfl; done)); try simp only [Act.put, List.setIfInBounds_toArray, List.set_cons_zero, List.set_cons_succ])
  (refine e_takeA 3 (by rfl) ?_ (by kernel_rfl) (fun _ _ _ h => h) hs1r ?_ ?_; rotate_left; (focus (intro wq hSw; have hrd := hSw; have hrd2 : ∀ b o, b < w2.heap.size → wq.cell? ⟨b, o, none⟩ = w2.cell? ⟨b, o, none⟩ := (fun b o h => Below.cell hSw (p := ⟨b, o, none⟩) h); go_simp; try with_reducible rfl; done)); try simp only [Act.put, List.setIfInBounds_toArray, List.set_cons_zero, List.set_cons_succ])
  (refine e_takeA 4 (by rfl) ?_ (by kernel_rfl) (fun _ _ _ h => h) hs1r ?_ ?_; rotate_left; (focus (intro wq hSw; have hrd := hSw; have hrd2 : ∀ b o, b < w2.heap.size → wq.cell? ⟨b, o, none⟩ = w2.cell? ⟨b, o, none⟩ := (fun b o h => Below.cell hSw (p := ⟨b, o, none⟩) h); go_simp; try with_reducible rfl; done)); try simp only [Act.put, List.setIfInBounds_toArray, List.set_cons_zero, List.set_cons_succ])
  (refine e_takeA 5 (by rfl) ?_ (by kernel_rfl) (fun _ _ _ h => h) hs1r ?_ ?_; rotate_left; (focus (intro wq hSw; have hrd := hSw; have hrd2 : ∀ b o, b < w2.heap.size → wq.cell? ⟨b, o, none⟩ = w2.cell? ⟨b, o, none⟩ := (fun b o h => Below.cell hSw (p := ⟨b, o, none⟩) h); go_simp; try with_reducible rfl; done)); try simp only [Act.put, List.setIfInBounds_toArray, List.set_cons_zero, List.set_cons_succ])
  (refine e_takeA 6 (by rfl) ?_ (by kernel_rfl) (fun _ _ _ h => h) hs1r ?_ ?_; rotate_left; (focus (intro wq hSw; have hrd := hSw; have hrd2 : ∀ b o, b < w2.heap.size → wq.cell? ⟨b, o, none⟩ = w2.cell? ⟨b, o, none⟩ := (fun b o h => Below.cell hSw (p := ⟨b, o, none⟩) h); go_simp; try with_reducible rfl; done)); try simp only [Act.put, List.setIfInBounds_toArray, List.set_cons_zero, List.set_cons_succ])
  (refine e_takeA 7 (by rfl) ?_ (by kernel_rfl) (fun _ _ _ h => h) hs1r ?_ ?_; rotate_left; (focus (intro wq hSw; have hrd := hSw; have hrd2 : ∀ b o, b < w2.heap.size → wq.cell? ⟨b, o, none⟩ = w2.cell? ⟨b, o, none⟩ := (fun b o h => Below.cell hSw (p := ⟨b, o, none⟩) h); go_simp; try with_reducible rfl; done)); try simp only [Act.put, List.setIfInBounds_toArray, List.set_cons_zero, List.set_cons_succ])
  (refine e_takeA 9 (by rfl) ?_ (by kernel_rfl) (fun _ _ _ h => h) hs1r ?_ ?_; rotate_left; (focus (intro wq hSw; have hrd := hSw; have hrd2 : ∀ b o, b < w2.heap.size → wq.cell? ⟨b, o, none⟩ = w2.cell? ⟨b, o, none⟩ := (fun b o h => Below.cell hSw (p := ⟨b, o, none⟩) h); go_simp; try with_reducible rfl; done)); try simp only [Act.put, List.setIfInBounds_toArray, List.set_cons_zero, List.set_cons_succ])
  (refine e_takeA 10 (by rfl) ?_ (by kernel_rfl) (fun _ _ _ h => h) hs1r ?_ ?_; rotate_left; (focus (intro wq hSw; have hrd := hSw; have hrd2 : ∀ b o, b < w2.heap.size → wq.cell? ⟨b, o, none⟩ = w2.cell? ⟨b, o, none⟩ := (fun b o h => Below.cell hSw (p := ⟨b, o, none⟩) h); go_simp; try with_reducible rfl; done)); try simp only [Act.put, List.setIfInBounds_toArray, List.set_cons_zero, List.set_cons_succ])
  (refine e_takeA 11 (by rfl) ?_ (by kernel_rfl) (fun _ _ _ h => h) hs1r ?_ ?_; rotate_left; (focus (intro wq hSw; have hrd := hSw; have hrd2 : ∀ b o, b < w2.heap.size → wq.cell? ⟨b, o, none⟩ = w2.cell? ⟨b, o, none⟩ := (fun b o h => Below.cell hSw (p := ⟨b, o, none⟩) h); go_simp; try with_reducible rfl; done)); try simp only [Act.put, List.setIfInBounds_toArray, List.set_cons_zero, List.set_cons_succ])
  (refine e_takeA 12 (by rfl) ?_ (by kernel_rfl) (fun _ _ _ h => h) hs1r ?_ ?_; rotate_left; (focus (intro wq hSw; have hrd := hSw; have hrd2 : ∀ b o, b < w2.heap.size → wq.cell? ⟨b, o, none⟩ = w2.cell? ⟨b, o, none⟩ := (fun b o h => Below.cell hSw (p := ⟨b, o, none⟩) h); go_simp; try with_reducible rfl; done)); try simp only [Act.put, List.setIfInBounds_toArray, List.set_cons_zero, List.set_cons_succ])
  (refine e_takeA 13 (by rfl) ?_ (by kernel_rfl) (fun _ _ _ h => h) hs1r ?_ ?_; rotate_left; (focus (intro wq hSw; have hrd := hSw; have hrd2 : ∀ b o, b < w2.heap.size → wq.cell? ⟨b, o, none⟩ = w2.cell? ⟨b, o, none⟩ := (fun b o h => Below.cell hSw (p := ⟨b, o, none⟩) h); go_simp; try with_reducible rfl; done)); try simp only [Act.put, List.setIfInBounds_toArray, List.set_cons_zero, List.set_cons_succ])
  (refine e_takeA 14 (by rfl) ?_ (by kernel_rfl) (fun _ _ _ h => h) hs1r ?_ ?_; rotate_left; (focus (intro wq hSw; have hrd := hSw; have hrd2 : ∀ b o, b < w2.heap.size → wq.cell? ⟨b, o, none⟩ = w2.cell? ⟨b, o, none⟩ := (fun b o h => Below.cell hSw (p := ⟨b, o, none⟩) h); go_simp; try with_reducible rfl; done)); try simp only [Act.put, List.setIfInBounds_toArray, List.set_cons_zero, List.set_cons_succ])
  (refine e_takeA 15 (by rfl) ?_ (by kernel_rfl) (fun _ _ _ h => h) hs1r ?_ ?_; rotate_left; (focus (intro wq hSw; have hrd := hSw; have hrd2 : ∀ b o, b < w2.heap.size → wq.cell? ⟨b, o, none⟩ = w2.cell? ⟨b, o, none⟩ := (fun b o h => Below.cell hSw (p := ⟨b, o, none⟩) h); go_simp; try with_reducible rfl; done)); try simp only [Act.put, List.setIfInBounds_toArray, List.set_cons_zero, List.set_cons_succ])
  refine e_callA 1 (by rfl) (by kernel_rfl) (by rfl) (fun KQ hKQ => ?_)
  go_simp
  have hb1 := (Below.refl w2.heap.size w2).drew.alloc (Nat.le_refl _) (.cells #[] 250)
  have hr0 : Rows rpK (w2.drew.alloc (.cells #[] 250)) w2.heap.size w2.heap.size 250 (.slice (some ⟨w2.heap.size, 0, none⟩) 0 0) [] := rp_lit w2.drew
  have hS3 := hSa.below hb1 fun b q => Nat.lt_of_lt_of_le q hz2
  have hd : (w2.alloc (.cells #[] 250)).drew = w2.drew.alloc (.cells #[] 250) := rfl
  try rw [hd]
  have hzz := hb1.size
  generalize w2.drew.alloc (.cells #[] 250) = w3 at *
  clear hd
  have hs2r := hb1
  refine hKQ.out _ _ hs2r ?_
  clear hKQ KQ
  try simp only [Act.put, List.setIfInBounds_toArray, List.set_cons_zero, List.set_cons_succ]
  refine e_callA 8 (by rfl) (by kernel_rfl) (by rfl) (fun KQ hKQ => ?_)
  refine wp_rows rp_ok (.tmp 22) (.tmp 28) (by rfl) hr0 (by rfl) (by rfl) hS3 (fun _ _ => trivial) (by unfold maxLen; simp; omega) (by simp; omega) hzz ?_
  intro v4 w4 hv4 hg4
  rw [List.nil_append] at hv4
  have hb4 := hb1.trans (hr0.below_app hg4 hzz)
  have hs3r := hb4
  refine hKQ.out _ _ hs3r ?_
  clear hKQ KQ
  try simp only [Act.put, List.setIfInBounds_toArray, List.set_cons_zero, List.set_cons_succ]
  have hS4 := hSb.below hb4 fun b q => Nat.lt_of_lt_of_le q hz2
  have hz4 := hb4.size
  have hl1 : (L.take k).length = k := by rw [List.length_take]; have := hn2.out; omega
  refine e_callA 16 (by rfl) (by kernel_rfl) (by rfl) (fun KQ hKQ => ?_)
  refine wp_rows rp_ok (.tmp 29) (.tmp 36) (by rfl) hv4 (by rfl) (by rfl) hS4 (fun _ _ => trivial) (by unfold maxLen; omega) (by omega) hz4 ?_
  intro v5 w5 hv5 hg5
  rw [← List.eraseIdx_eq_take_drop_succ] at hv5
  have hb5 := hb4.trans (hv4.below_app hg5 hz4)
  obtain ⟨A5, c5, e5, hc5, hcm5, hS5⟩ := hv5.seen (Nat.le_refl _)
  subst e5
  have hq5 := hq.below hb5 ltd2
  have g5 := hq5.frozen 4
  have hz5 := hb5.size
  have ltd5 : d < w5.heap.size := Nat.lt_of_lt_of_le ltd2 hz5
  have c5' : w5.cell? ⟨d, 4, none⟩ = some (.slice (some ⟨b, off, none⟩) n c) := hq5.cellv 4 rfl
  have hn9 := own_ne_blk hv5.1 hq5 (by decide)
  have hol := hv5.1.lt
  have hs4r := hb5
  refine hKQ.out _ _ hs4r ?_
  clear hKQ KQ
  try simp only [Act.put, List.setIfInBounds_toArray, List.set_cons_zero, List.set_cons_succ]
  (refine e_takeA 17 (by rfl) ?_ (by kernel_rfl) (fun _ _ _ h => h) hs4r ?_ ?_; rotate_left; (focus (intro wq hSw; have hrd := hSw; have hrd2 : ∀ b o, b < w2.heap.size → wq.cell? ⟨b, o, none⟩ = w2.cell? ⟨b, o, none⟩ := (fun b o h => Below.cell hSw (p := ⟨b, o, none⟩) h); go_simp; try with_reducible rfl; done)); try simp only [Act.put, List.setIfInBounds_toArray, List.set_cons_zero, List.set_cons_succ])
  (refine e_takeA 18 (by rfl) ?_ (by kernel_rfl) (fun _ _ _ h => h) hs4r ?_ ?_; rotate_left; (focus (intro wq hSw; have hrd := hSw; have hrd2 : ∀ b o, b < w2.heap.size → wq.cell? ⟨b, o, none⟩ = w2.cell? ⟨b, o, none⟩ := (fun b o h => Below.cell hSw (p := ⟨b, o, none⟩) h); go_simp; try with_reducible rfl; done)); try simp only [Act.put, List.setIfInBounds_toArray, List.set_cons_zero, List.set_cons_succ])
  refine e_last (by rfl) (by kernel_rfl) (by rfl) (fun KQ hKQ => ?_)
  go_simp
  obtain ⟨hq9, hg6⟩ := blk_store hq5 4 (.slice A5 (L.eraseIdx k).length c5)
  replace hq9 : Blk (w5.setCell ⟨d, 4, none⟩ (.slice A5 (L.eraseIdx k).length c5)) d 228 #[.int .i64 ev, .int .i64 pa, .int .i64 no, .int .i64 sq, .slice A5 (L.eraseIdx k).length c5] := hq9
  have hR9 : Rows rpK (w5.setCell ⟨d, 4, none⟩ (.slice A5 (L.eraseIdx k).length c5)) w2.heap.size w2.heap.size 250 (.slice A5 (L.eraseIdx k).length c5) (L.eraseIdx k) := ⟨hv5.1.kept hg6 (.inr hn9), fun _ _ => trivial⟩
  have hz6 := hg6.size
  generalize w5.setCell ⟨d, 4, none⟩ (.slice A5 (L.eraseIdx k).length c5) = x9 at *
  refine hKQ.out _ _ ?_
  clear hKQ KQ
  try simp only [Act.put]
  refine e_done (by kernel_rfl) ?_ _
  try refine NoPanic.normal ?_
  go_wp2_with fail
  go_ret
  rw [hv.out.1, hv.out.2]
  have hCC : Chg w x9 (fun k => k = d) := (Chg.of_below hB2).trans ((Chg.of_below (X := fun k => k = d) hb5).trans (Chg.of_grown (X := fun k => k = d) hg6 rfl) (fun _ _ q => q)) (fun _ _ q => q)
  refine ⟨rfl, fun k => Y k ∨ (w.heap.size ≤ k ∧ k < x9.heap.size), ⟨_, hq9, hR9.less (Nat.zero_le _) (Nat.zero_le _), hn9, ?_, ?_⟩, fun k q => q.imp (fun q => q) fun q => q.1, hCC.mono fun i _ q => by rw [q]; exact h4 d (.inl rfl)⟩
  · rintro j (q | q)
    · exact .inl (h4 j (.inl q))
    · have := hol j q
      exact .inr ⟨by omega, by omega⟩
  · rintro j (q | q)
    · exact Nat.lt_of_lt_of_le (h5 j q) hCC.size
    · exact q.2
set_option maxRecDepth 100000 in
theorem refAddBad24 (w : World) (Y : Nat → Prop) (d : Nat) (ev pa no sq : Int) (L : List Pr) (h : RefP w Y d ev pa no sq L) (hn : L.length ≤ 100000) (id : Int) (hid : id < 0 ∨ 255 < id) :
    Calls Try.prog 161 #[.pointer (some ⟨d, 0, none⟩), .int .i64 id] w fun e w' => e = .returned (.int .i64 9) ∧ w = w' := by
  go_enter Try.func161, Try.ntmps161
  by_cases hl : id < 0
  · have t1 : decide (id < 0) = true := by simpa using hl
    go_wp2_with fail
    go_ret
    exact ⟨rfl, rfl⟩
  · have t1 : decide (id < 0) = false := by simpa using hl
    have t2 : decide (255 < id) = true := by simp; omega
    go_wp2_with fail
    go_ret
    exact ⟨rfl, rfl⟩
set_option maxRecDepth 100000 in
set_option maxHeartbeats 8000000 in
theorem refAddOk24 (w : World) (Y : Nat → Prop) (d : Nat) (ev pa no sq : Int) (L : List Pr) (h : RefP w Y d ev pa no sq L) (hn : L.length ≤ 100000) (hdist : Dist L) (id : Int) (hid : 0 ≤ id ∧ id ≤ 255) (hno : 0 ≤ no ∧ no ≤ 1099511627776) :
    Calls Try.prog 161 #[.pointer (some ⟨d, 0, none⟩), .int .i64 id] w fun e w' => e = .returned (.int .i64 (addC L id no).1) ∧ ∃ Y', RefP w' Y' d ev pa no sq (addC L id no).2 ∧ (∀ k, Y' k → Y k ∨ w.heap.size ≤ k) ∧ Chg w w' Y := by
  have hR : RefP w Y d ev pa no sq L := h
  obtain ⟨v, h1, h2, h3, h4, h5⟩ := h
  obtain ⟨A, c, rfl, hnc, hcm, hS⟩ := h2.seen (Nat.le_refl _)
  have c0 : w.cell? ⟨d, 0, none⟩ = some (.int .i64 ev) := h1.cellv 0 rfl
  have c1 : w.cell? ⟨d, 1, none⟩ = some (.int .i64 pa) := h1.cellv 1 rfl
  have c2 : w.cell? ⟨d, 2, none⟩ = some (.int .i64 no) := h1.cellv 2 rfl
  have c3 : w.cell? ⟨d, 3, none⟩ = some (.int .i64 sq) := h1.cellv 3 rfl
  have c4 : w.cell? ⟨d, 4, none⟩ = some (.slice A L.length c) := h1.cellv 4 rfl
  have ltd := h1.lt
  have hS0 := hS.more (S' := fun b => b < w.heap.size) fun b q => q.2
  obtain ⟨n, hn2⟩ : ∃ n, n = L.length := ⟨_, rfl⟩
  rw [← hn2] at c4 hS0 hn hnc h1 h2 h3 h4
  replace hn2 := Lib.hid hn2
  clear hS
  have t1 : decide (id < 0) = false := by simp; omega
  have t2 : decide (255 < id) = false := by simp; omega
  have kno : IntKind.i64.wrap (no + 1) = no + 1 := IntWalk.i64_in _ (by omega)
  have B0 := Below.refl w.heap.size w
  go_enter Try.func161, Try.ntmps161
  go_wp2_with fail
  go_loopw [5] (fun i wr => w = wr ∧ ∃ k : Nat, k ≤ n ∧ i = .int .i64 (k : Int) ∧ ∀ j x, j < k → L[j]? = some x → x.id < id) (fun i _ => n - (intOf i).toNat)
  case atStart => exact ⟨rfl, 0, Nat.zero_le _, rfl, fun j x hj => by omega⟩
  case round =>
  obtain ⟨rfl, k, hk, rfl, hf⟩ := hrel
  replace hf := Lib.hid hf
  have ecut : ∀ hs : (∀ r, L[k]? = some r → id < r.id), addC L id no = (0, L.take k ++ (⟨id, no + 1, 0, 0⟩ : Pr) :: L.drop k) := fun hs => by
    have hno' := find_cut hdist hf.out hs
    obtain ⟨q1, q2⟩ := take_cut hf.out (fun r hr => by have := hs r hr; omega) (by have := hn2.out; omega)
    unfold addC insP
    rw [if_neg (by omega), findP_none hno', q1, q2]
    rfl
  by_cases hlt : k < n
  · obtain ⟨b, off, r, hA, hb1, hrk, e0, e1, e2, e3⟩ := rp_cells hS0 hlt
    have hki : (k : Int) < n := by omega
    have ltb : b < w.heap.size := hb1
    by_cases hr : r.id < id
    · have t3 : decide (r.id < id) = true := by simpa using hr
      have hv := Lib.hid (show ∀ j x, j < k + 1 → L[j]? = some x → x.id < id from fun j x hj hx => by
        by_cases e : j = k
        · rw [e, hrk] at hx; injection hx with hx; rw [← hx]; exact hr
        · exact hf.out j x (by omega) hx)
      subst hA
      replace hr := Lib.hid hr
      replace hrk := Lib.hid hrk
      go_wp2_with fail
      exact ⟨⟨trivial, k + 1, by omega, by go_num, hv.out⟩, by simp [intOf]; omega⟩
    · have t3 : decide (r.id < id) = false := by simpa using hr
      by_cases he : r.id = id
      · have t4 : (r.id == id) = true := by simpa using he
        have hv := Lib.hid (show addC L id no = (13, L) by unfold addC; rw [if_neg (by omega), ← he, findP_some hdist (List.mem_of_getElem? hrk)]; rfl)
        subst hA
        replace hr := Lib.hid hr
        replace he := Lib.hid he
        replace hrk := Lib.hid hrk
        go_wp2_with fail
        go_ret
        rw [hv.out]
        exact ⟨rfl, Y, hR, fun k q => .inl q, Chg.refl _ _⟩
      · have t4 : (r.id == id) = false := by simpa using he
        have hv := Lib.hid (ecut fun x hx => by rw [hrk] at hx; injection hx with hx; rw [← hx]; omega)
        subst hA
        replace hr := Lib.hid hr
        replace he := Lib.hid he
        replace hrk := Lib.hid hrk
        go_upto_region 8 with (fail)
        clear e0 e1 e2 e3 ltb hb1
        generalize (some ⟨b, off, none⟩ : Option Addr) = A at *
        obtain ⟨A1, hs1, hr1⟩ := row_take elem_rp size_rp A n c k (by omega) hnc
        obtain ⟨A2, hs2, hr2⟩ := row_drop elem_rp size_rp A n c k (by omega) hnc
        have hSa := hr1 _ _ _ hS0
        have hSb := hr2 _ _ _ hS0
        have hl1 := Lib.hid (show (L.take k).length = k by rw [List.length_take]; have := hn2.out; omega)
        clear hr1 hr2 hf ecut hdist
        -- region 8: 0 1M 2 3 4 5 6 7 8M 9 10 11 12 13 14 15 16M 17M 18 19 20 21 22 23 24M 25 26 27M
        try refine wp_region_noPanic ?_
        have hs5r : (fun w' => Below w.heap.size w w') w.drew := (Below.refl _ _).drew
        refine wp_region_E 27 (S := fun w' => Below w.heap.size w w') (by kernel_rfl) hs5r (fun _ => ?_)
        (refine e_takeA 0 (by rfl) ?_ (by kernel_rfl) (fun _ _ _ h => h) hs5r ?_ ?_; rotate_left; (focus (intro wq hSw; have hrd := hSw; have hrd2 : ∀ b o, b < w.heap.size → wq.cell? ⟨b, o, none⟩ = w.cell? ⟨b, o, none⟩ := (fun b o h => Below.cell hSw (p := ⟨b, o, none⟩) h); go_simp; try with_reducible rfl; done)); try simp only [Act.put, List.setIfInBounds_toArray, List.set_cons_zero, List.set_cons_succ])
        (refine e_takeA 2 (by rfl) ?_ (by kernel_rfl) (fun _ _ _ h => h) hs5r ?_ ?_; rotate_left; (focus (intro wq hSw; have hrd := hSw; have hrd2 : ∀ b o, b < w.heap.size → wq.cell? ⟨b, o, none⟩ = w.cell? ⟨b, o, none⟩ := (fun b o h => Below.cell hSw (p := ⟨b, o, none⟩) h); go_simp; try with_reducible rfl; done)); try simp only [Act.put, List.setIfInBounds_toArray, List.set_cons_zero, List.set_cons_succ])
        (refine e_takeA 3 (by rfl) ?_ (by kernel_rfl) (fun _ _ _ h => h) hs5r ?_ ?_; rotate_left; (focus (intro wq hSw; have hrd := hSw; have hrd2 : ∀ b o, b < w.heap.size → wq.cell? ⟨b, o, none⟩ = w.cell? ⟨b, o, none⟩ := (fun b o h => Below.cell hSw (p := ⟨b, o, none⟩) h); go_simp; try with_reducible rfl; done)); try simp only [Act.put, List.setIfInBounds_toArray, List.set_cons_zero, List.set_cons_succ])
        (refine e_takeA 4 (by rfl) ?_ (by kernel_rfl) (fun _ _ _ h => h) hs5r ?_ ?_; rotate_left; (focus (intro wq hSw; have hrd := hSw; have hrd2 : ∀ b o, b < w.heap.size → wq.cell? ⟨b, o, none⟩ = w.cell? ⟨b, o, none⟩ := (fun b o h => Below.cell hSw (p := ⟨b, o, none⟩) h); go_simp; try with_reducible rfl; done)); try simp only [Act.put, List.setIfInBounds_toArray, List.set_cons_zero, List.set_cons_succ])
        (refine e_takeA 5 (by rfl) ?_ (by kernel_rfl) (fun _ _ _ h => h) hs5r ?_ ?_; rotate_left; (focus (intro wq hSw; have hrd := hSw; have hrd2 : ∀ b o, b < w.heap.size → wq.cell? ⟨b, o, none⟩ = w.cell? ⟨b, o, none⟩ := (fun b o h => Below.cell hSw (p := ⟨b, o, none⟩) h); go_simp; try with_reducible rfl; done)); try simp only [Act.put, List.setIfInBounds_toArray, List.set_cons_zero, List.set_cons_succ])
        (refine e_takeA 6 (by rfl) ?_ (by kernel_rfl) (fun _ _ _ h => h) hs5r ?_ ?_; rotate_left; (focus (intro wq hSw; have hrd := hSw; have hrd2 : ∀ b o, b < w.heap.size → wq.cell? ⟨b, o, none⟩ = w.cell? ⟨b, o, none⟩ := (fun b o h => Below.cell hSw (p := ⟨b, o, none⟩) h); go_simp; try with_reducible rfl; done)); try simp only [Act.put, List.setIfInBounds_toArray, List.set_cons_zero, List.set_cons_succ])
        (refine e_takeA 7 (by rfl) ?_ (by kernel_rfl) (fun _ _ _ h => h) hs5r ?_ ?_; rotate_left; (focus (intro wq hSw; have hrd := hSw; have hrd2 : ∀ b o, b < w.heap.size → wq.cell? ⟨b, o, none⟩ = w.cell? ⟨b, o, none⟩ := (fun b o h => Below.cell hSw (p := ⟨b, o, none⟩) h); go_simp; try with_reducible rfl; done)); try simp only [Act.put, List.setIfInBounds_toArray, List.set_cons_zero, List.set_cons_succ])
        (refine e_takeA 9 (by rfl) ?_ (by kernel_rfl) (fun _ _ _ h => h) hs5r ?_ ?_; rotate_left; (focus (intro wq hSw; have hrd := hSw; have hrd2 : ∀ b o, b < w.heap.size → wq.cell? ⟨b, o, none⟩ = w.cell? ⟨b, o, none⟩ := (fun b o h => Below.cell hSw (p := ⟨b, o, none⟩) h); go_simp; try with_reducible rfl; done)); try simp only [Act.put, List.setIfInBounds_toArray, List.set_cons_zero, List.set_cons_succ])
        (refine e_takeA 10 (by rfl) ?_ (by kernel_rfl) (fun _ _ _ h => h) hs5r ?_ ?_; rotate_left; (focus (intro wq hSw; have hrd := hSw; have hrd2 : ∀ b o, b < w.heap.size → wq.cell? ⟨b, o, none⟩ = w.cell? ⟨b, o, none⟩ := (fun b o h => Below.cell hSw (p := ⟨b, o, none⟩) h); go_simp; try with_reducible rfl; done)); try simp only [Act.put, List.setIfInBounds_toArray, List.set_cons_zero, List.set_cons_succ])
        (refine e_takeA 11 (by rfl) ?_ (by kernel_rfl) (fun _ _ _ h => h) hs5r ?_ ?_; rotate_left; (focus (intro wq hSw; have hrd := hSw; have hrd2 : ∀ b o, b < w.heap.size → wq.cell? ⟨b, o, none⟩ = w.cell? ⟨b, o, none⟩ := (fun b o h => Below.cell hSw (p := ⟨b, o, none⟩) h); go_simp; try with_reducible rfl; done)); try simp only [Act.put, List.setIfInBounds_toArray, List.set_cons_zero, List.set_cons_succ])
        (refine e_takeA 12 (by rfl) ?_ (by kernel_rfl) (fun _ _ _ h => h) hs5r ?_ ?_; rotate_left; (focus (intro wq hSw; have hrd := hSw; have hrd2 : ∀ b o, b < w.heap.size → wq.cell? ⟨b, o, none⟩ = w.cell? ⟨b, o, none⟩ := (fun b o h => Below.cell hSw (p := ⟨b, o, none⟩) h); go_simp; try with_reducible rfl; done)); try simp only [Act.put, List.setIfInBounds_toArray, List.set_cons_zero, List.set_cons_succ])
        (refine e_takeA 13 (by rfl) ?_ (by kernel_rfl) (fun _ _ _ h => h) hs5r ?_ ?_; rotate_left; (focus (intro wq hSw; have hrd := hSw; have hrd2 : ∀ b o, b < w.heap.size → wq.cell? ⟨b, o, none⟩ = w.cell? ⟨b, o, none⟩ := (fun b o h => Below.cell hSw (p := ⟨b, o, none⟩) h); go_simp; try with_reducible rfl; done)); try simp only [Act.put, List.setIfInBounds_toArray, List.set_cons_zero, List.set_cons_succ])
        (refine e_takeA 14 (by rfl) ?_ (by kernel_rfl) (fun _ _ _ h => h) hs5r ?_ ?_; rotate_left; (focus (intro wq hSw; have hrd := hSw; have hrd2 : ∀ b o, b < w.heap.size → wq.cell? ⟨b, o, none⟩ = w.cell? ⟨b, o, none⟩ := (fun b o h => Below.cell hSw (p := ⟨b, o, none⟩) h); go_simp; try with_reducible rfl; done)); try simp only [Act.put, List.setIfInBounds_toArray, List.set_cons_zero, List.set_cons_succ])
        (refine e_takeA 15 (by rfl) ?_ (by kernel_rfl) (fun _ _ _ h => h) hs5r ?_ ?_; rotate_left; (focus (intro wq hSw; have hrd := hSw; have hrd2 : ∀ b o, b < w.heap.size → wq.cell? ⟨b, o, none⟩ = w.cell? ⟨b, o, none⟩ := (fun b o h => Below.cell hSw (p := ⟨b, o, none⟩) h); go_simp; try with_reducible rfl; done)); try simp only [Act.put, List.setIfInBounds_toArray, List.set_cons_zero, List.set_cons_succ])
        (refine e_takeA 18 (by rfl) ?_ (by kernel_rfl) (fun _ _ _ h => h) hs5r ?_ ?_; rotate_left; (focus (intro wq hSw; have hrd := hSw; have hrd2 : ∀ b o, b < w.heap.size → wq.cell? ⟨b, o, none⟩ = w.cell? ⟨b, o, none⟩ := (fun b o h => Below.cell hSw (p := ⟨b, o, none⟩) h); go_simp; try with_reducible rfl; done)); try simp only [Act.put, List.setIfInBounds_toArray, List.set_cons_zero, List.set_cons_succ])
        (refine e_takeA 19 (by rfl) ?_ (by kernel_rfl) (fun _ _ _ h => h) hs5r ?_ ?_; rotate_left; (focus (intro wq hSw; have hrd := hSw; have hrd2 : ∀ b o, b < w.heap.size → wq.cell? ⟨b, o, none⟩ = w.cell? ⟨b, o, none⟩ := (fun b o h => Below.cell hSw (p := ⟨b, o, none⟩) h); go_simp; try with_reducible rfl; done)); try simp only [Act.put, List.setIfInBounds_toArray, List.set_cons_zero, List.set_cons_succ])
        (refine e_takeA 20 (by rfl) ?_ (by kernel_rfl) (fun _ _ _ h => h) hs5r ?_ ?_; rotate_left; (focus (intro wq hSw; have hrd := hSw; have hrd2 : ∀ b o, b < w.heap.size → wq.cell? ⟨b, o, none⟩ = w.cell? ⟨b, o, none⟩ := (fun b o h => Below.cell hSw (p := ⟨b, o, none⟩) h); go_simp; try with_reducible rfl; done)); try simp only [Act.put, List.setIfInBounds_toArray, List.set_cons_zero, List.set_cons_succ])
        (refine e_takeA 21 (by rfl) ?_ (by kernel_rfl) (fun _ _ _ h => h) hs5r ?_ ?_; rotate_left; (focus (intro wq hSw; have hrd := hSw; have hrd2 : ∀ b o, b < w.heap.size → wq.cell? ⟨b, o, none⟩ = w.cell? ⟨b, o, none⟩ := (fun b o h => Below.cell hSw (p := ⟨b, o, none⟩) h); go_simp; try with_reducible rfl; done)); try simp only [Act.put, List.setIfInBounds_toArray, List.set_cons_zero, List.set_cons_succ])
        (refine e_takeA 22 (by rfl) ?_ (by kernel_rfl) (fun _ _ _ h => h) hs5r ?_ ?_; rotate_left; (focus (intro wq hSw; have hrd := hSw; have hrd2 : ∀ b o, b < w.heap.size → wq.cell? ⟨b, o, none⟩ = w.cell? ⟨b, o, none⟩ := (fun b o h => Below.cell hSw (p := ⟨b, o, none⟩) h); go_simp; try with_reducible rfl; done)); try simp only [Act.put, List.setIfInBounds_toArray, List.set_cons_zero, List.set_cons_succ])
        (refine e_takeA 23 (by rfl) ?_ (by kernel_rfl) (fun _ _ _ h => h) hs5r ?_ ?_; rotate_left; (focus (intro wq hSw; have hrd := hSw; have hrd2 : ∀ b o, b < w.heap.size → wq.cell? ⟨b, o, none⟩ = w.cell? ⟨b, o, none⟩ := (fun b o h => Below.cell hSw (p := ⟨b, o, none⟩) h); go_simp; try with_reducible rfl; done)); try simp only [Act.put, List.setIfInBounds_toArray, List.set_cons_zero, List.set_cons_succ])
        have hb0 : Below w.heap.size w w.drew := (Below.refl _ _).drew
        refine e_two 1 16 (by rfl) (by rfl) (by kernel_rfl) (by rfl) (by rfl) (fun KQ hKQ => ?_) (fun KQ hKQ => ?_)
        · skip
          go_simp
          have hst0 := (Below.refl (w.drew).heap.size (w.drew)).alloc (Nat.le_refl _) (.cells #[] 250)
          have hb1 : Below w.heap.size w ((w.drew).alloc (.cells #[] 250)) := hb0.alloc hb0.size (.cells #[] 250)
          have lt1 : w.heap.size < ((w.drew).alloc (.cells #[] 250)).heap.size := by simp
          have hr0 : Rows rpK ((w.drew).alloc (.cells #[] 250)) w.heap.size w.heap.size 250 (.slice (some ⟨w.heap.size, 0, none⟩) 0 0) [] := (rp_lit (w.drew)).less hb0.size hb0.size
          have hd : (w.alloc (.cells #[] 250)).drew = w.drew.alloc (.cells #[] 250) := rfl
          try rw [hd]
          clear hd
          generalize (w.drew).alloc (.cells #[] 250) = x0 at *
          have hs6r := hb1
          refine hKQ.out _ _ hs6r ?_
          clear hKQ KQ
          try simp only [Act.put, List.setIfInBounds_toArray, List.set_cons_zero, List.set_cons_succ]
          refine e_two 8 16 (by rfl) (by rfl) (by kernel_rfl) (by rfl) (by rfl) (fun KQ hKQ => ?_) (fun KQ hKQ => ?_)
          · skip
            have hzz := hb1.size
            have hsrc := (hSa.below hb1 fun b q => q)
            refine wp_rows rp_ok (.tmp 53) (.tmp 59) (by rfl) hr0 (by rfl) (by rfl) hsrc (fun _ _ => trivial) (by unfold maxLen; simp only [List.length_nil]; omega) (by simp only [List.length_nil]; omega) hzz ?_
            intro v8 x1 hv8 hg8
            have hb2 := hb1.trans (hr0.below_app hg8 hzz)
            rw [List.nil_append] at hv8
            replace lt1 := Nat.lt_of_lt_of_le lt1 hg8.size
            clear hsrc hzz
            have hs7r := hb2
            refine hKQ.out _ _ hs7r ?_
            clear hKQ KQ
            try simp only [Act.put, List.setIfInBounds_toArray, List.set_cons_zero, List.set_cons_succ]
            refine e_callA 16 (by rfl) (by kernel_rfl) (by rfl) (fun KQ hKQ => ?_)
            go_simp
            have hst2 := (Below.refl (x1).heap.size (x1)).alloc (Nat.le_refl _) (.cells #[.int .i64 id, .int .i64 (no + 1), .int .i64 0, .int .i64 0] 250)
            have hb3 : Below w.heap.size w ((x1).alloc (.cells #[.int .i64 id, .int .i64 (no + 1), .int .i64 0, .int .i64 0] 250)) := hb2.alloc hb2.size (.cells #[.int .i64 id, .int .i64 (no + 1), .int .i64 0, .int .i64 0] 250)
            have lt16 : x1.heap.size < ((x1).alloc (.cells #[.int .i64 id, .int .i64 (no + 1), .int .i64 0, .int .i64 0] 250)).heap.size := by simp
            have hne : w.heap.size ≠ x1.heap.size := by omega
            replace hv8 := hv8.below hst2
            replace lt1 := Nat.lt_of_lt_of_le lt1 hst2.size
            have hel : Seen rpK ((x1).alloc (.cells #[.int .i64 id, .int .i64 (no + 1), .int .i64 0, .int .i64 0] 250)) (fun b => b = x1.heap.size) (some ⟨x1.heap.size, 0, none⟩) 1 [(⟨id, no + 1, 0, 0⟩ : Pr)] := seen_one (R := rpK) (S := fun _ => False) (S' := fun b => b = x1.heap.size) (x1) 250 (⟨id, no + 1, 0, 0⟩ : Pr) #[.int .i64 id, .int .i64 (no + 1), .int .i64 0, .int .i64 0] rfl trivial (fun _ h => h.elim) rfl (fun _ h => h.elim)
            generalize (x1).alloc (.cells #[.int .i64 id, .int .i64 (no + 1), .int .i64 0, .int .i64 0] 250) = x2 at *
            have hs8r := hb3
            refine hKQ.out _ _ hs8r ?_
            clear hKQ KQ
            try simp only [Act.put, List.setIfInBounds_toArray, List.set_cons_zero, List.set_cons_succ]
            have hzz := hb3.size
            have hsrc := hel
            refine e_callA 17 (by rfl) (by kernel_rfl) (by rfl) (fun KQ hKQ => ?_)
            refine wp_rows rp_ok (.tmp 60) (.tmp 68) (by rfl) hv8 (by rfl) (by rfl) hsrc (fun _ _ => trivial) (by unfold maxLen; rw [hl1.out]; omega) (by rw [hl1.out]; omega) hzz ?_
            intro v17 x3 hv17 hg17
            have hb4 := hb3.trans (hv8.below_app hg17 hzz)
            clear hsrc hzz
            have hs9r := hb4
            refine hKQ.out _ _ hs9r ?_
            clear hKQ KQ
            try simp only [Act.put, List.setIfInBounds_toArray, List.set_cons_zero, List.set_cons_succ]
            have hzz := hb4.size
            have hsrc := (hSb.below hb4 fun b q => q)
            refine e_callA 24 (by rfl) (by kernel_rfl) (by rfl) (fun KQ hKQ => ?_)
            refine wp_rows rp_ok (.tmp 69) (.tmp 75) (by rfl) hv17 (by rfl) (by rfl) hsrc (fun _ _ => trivial) (by unfold maxLen; rw [List.length_append, hl1.out, List.length_singleton]; omega) (by rw [List.length_append, hl1.out, List.length_singleton]; omega) hzz ?_
            intro v24 x4 hv24 hg24
            have hb5 := hb4.trans (hv17.below_app hg24 hzz)
            clear hsrc hzz
            obtain ⟨A5, c5, e5, hc5, hcm5, hS5⟩ := hv24.seen (Nat.le_refl _)
            have e24 : (L.take k ++ [(⟨id, no + 1, 0, 0⟩ : Pr)] ++ L.drop k) = L.take k ++ (⟨id, no + 1, 0, 0⟩ : Pr) :: L.drop k := by rw [List.append_assoc]; rfl
            rw [e24] at hv24 e5
            subst e5
            replace e24 := Lib.hid e24
            have hq5 := h1.below hb5 ltd
            have g5 := hq5.frozen 4
            have hz5 := hb5.size
            have ltd5 : d < x4.heap.size := Nat.lt_of_lt_of_le ltd hz5
            have c5x : x4.cell? ⟨d, 4, none⟩ = some (.slice A n c) := hq5.cellv 4 rfl
            have hn9 := own_ne_blk hv24.1 hq5 (by decide)
            have hol := hv24.1.lt
            obtain ⟨LL, hLL⟩ : ∃ LL, LL = L.take k ++ (⟨id, no + 1, 0, 0⟩ : Pr) :: L.drop k := ⟨_, rfl⟩
            rw [← hLL] at hv24 hn9 hol
            simp only [← hLL]
            replace hLL := Lib.hid hLL
            have hs10r := hb5
            refine hKQ.out _ _ hs10r ?_
            clear hKQ KQ
            try simp only [Act.put, List.setIfInBounds_toArray, List.set_cons_zero, List.set_cons_succ]
            (refine e_takeA 25 (by rfl) ?_ (by kernel_rfl) (fun _ _ _ h => h) hs10r ?_ ?_; rotate_left; (focus (intro wq hSw; have hrd := hSw; have hrd2 : ∀ b o, b < w.heap.size → wq.cell? ⟨b, o, none⟩ = w.cell? ⟨b, o, none⟩ := (fun b o h => Below.cell hSw (p := ⟨b, o, none⟩) h); go_simp; try with_reducible rfl; done)); try simp only [Act.put, List.setIfInBounds_toArray, List.set_cons_zero, List.set_cons_succ])
            (refine e_takeA 26 (by rfl) ?_ (by kernel_rfl) (fun _ _ _ h => h) hs10r ?_ ?_; rotate_left; (focus (intro wq hSw; have hrd := hSw; have hrd2 : ∀ b o, b < w.heap.size → wq.cell? ⟨b, o, none⟩ = w.cell? ⟨b, o, none⟩ := (fun b o h => Below.cell hSw (p := ⟨b, o, none⟩) h); go_simp; try with_reducible rfl; done)); try simp only [Act.put, List.setIfInBounds_toArray, List.set_cons_zero, List.set_cons_succ])
            refine e_last (by rfl) (by kernel_rfl) (by rfl) (fun KQ hKQ => ?_)
            go_simp
            obtain ⟨hq9, hg6⟩ := blk_store hq5 4 (.slice A5 LL.length c5)
            replace hq9 : Blk (x4.setCell ⟨d, 4, none⟩ (.slice A5 LL.length c5)) d 228 #[.int .i64 ev, .int .i64 pa, .int .i64 no, .int .i64 sq, .slice A5 LL.length c5] := hq9
            have hR9 : Rows rpK (x4.setCell ⟨d, 4, none⟩ (.slice A5 LL.length c5)) w.heap.size w.heap.size 250 (.slice A5 LL.length c5) LL := ⟨hv24.1.kept hg6 (.inr hn9), fun _ _ => trivial⟩
            have hz6 := hg6.size
            generalize x4.setCell ⟨d, 4, none⟩ (.slice A5 LL.length c5) = x9 at *
            refine hKQ.out _ _ ?_
            clear hKQ KQ
            try simp only [Act.put]
            refine e_done (by kernel_rfl) ?_ _
            try refine NoPanic.normal ?_
            go_wp2_with fail
            go_ret
            have hv1 : (addC L id no).1 = 0 := by rw [hv.out]
            have hv2 : (addC L id no).2 = LL := by rw [hv.out, hLL.out]
            rw [hv1, hv2]
            have hB2 := Below.refl w.heap.size w
            have hCC : Chg w x9 (fun k => k = d) := (Chg.of_below hB2).trans ((Chg.of_below (X := fun k => k = d) hb5).trans (Chg.of_grown (X := fun k => k = d) hg6 rfl) (fun _ _ q => q)) (fun _ _ q => q)
            refine ⟨rfl, fun k => Y k ∨ (w.heap.size ≤ k ∧ k < x9.heap.size), ⟨_, hq9, hR9.less (Nat.zero_le _) (Nat.zero_le _), hn9, ?_, ?_⟩, fun k q => q.imp (fun q => q) fun q => q.1, hCC.mono fun i _ q => by rw [q]; exact h4 d (.inl rfl)⟩
            · rintro j (q | q)
              · exact .inl (h4 j (.inl q))
              · have := hol j q
                exact .inr ⟨by omega, by omega⟩
            · rintro j (q | q)
              · exact Nat.lt_of_lt_of_le (h5 j q) hCC.size
              · exact q.2
          · skip
            go_simp
            have hst1 := (Below.refl (x0).heap.size (x0)).alloc (Nat.le_refl _) (.cells #[.int .i64 id, .int .i64 (no + 1), .int .i64 0, .int .i64 0] 250)
            have hb2 : Below w.heap.size w ((x0).alloc (.cells #[.int .i64 id, .int .i64 (no + 1), .int .i64 0, .int .i64 0] 250)) := hb1.alloc hb1.size (.cells #[.int .i64 id, .int .i64 (no + 1), .int .i64 0, .int .i64 0] 250)
            have lt16 : x0.heap.size < ((x0).alloc (.cells #[.int .i64 id, .int .i64 (no + 1), .int .i64 0, .int .i64 0] 250)).heap.size := by simp
            have hne : w.heap.size ≠ x0.heap.size := by omega
            replace hr0 := hr0.below hst1
            replace lt1 := Nat.lt_of_lt_of_le lt1 hst1.size
            have hel : Seen rpK ((x0).alloc (.cells #[.int .i64 id, .int .i64 (no + 1), .int .i64 0, .int .i64 0] 250)) (fun b => b = x0.heap.size) (some ⟨x0.heap.size, 0, none⟩) 1 [(⟨id, no + 1, 0, 0⟩ : Pr)] := seen_one (R := rpK) (S := fun _ => False) (S' := fun b => b = x0.heap.size) (x0) 250 (⟨id, no + 1, 0, 0⟩ : Pr) #[.int .i64 id, .int .i64 (no + 1), .int .i64 0, .int .i64 0] rfl trivial (fun _ h => h.elim) rfl (fun _ h => h.elim)
            generalize (x0).alloc (.cells #[.int .i64 id, .int .i64 (no + 1), .int .i64 0, .int .i64 0] 250) = x1 at *
            have hs11r := hb2
            refine hKQ.out _ _ hs11r ?_
            clear hKQ KQ
            try simp only [Act.put, List.setIfInBounds_toArray, List.set_cons_zero, List.set_cons_succ]
            have hzz := hb2.size
            have hsrc := (hSa.below hb2 fun b q => q)
            refine e_callA 8 (by rfl) (by kernel_rfl) (by rfl) (fun KQ hKQ => ?_)
            refine wp_rows rp_ok (.tmp 53) (.tmp 59) (by rfl) hr0 (by rfl) (by rfl) hsrc (fun _ _ => trivial) (by unfold maxLen; simp only [List.length_nil]; omega) (by simp only [List.length_nil]; omega) hzz ?_
            intro v8 x2 hv8 hg8
            have hb3 := hb2.trans (hr0.below_app hg8 hzz)
            rw [List.nil_append] at hv8
            replace lt1 := Nat.lt_of_lt_of_le lt1 hg8.size
            replace hel := hel.grown hg8 fun b q => ⟨by omega, fun e => by have e2 : w.heap.size = b := Option.some.inj e; omega⟩
            replace lt16 := Nat.lt_of_lt_of_le lt16 hg8.size
            clear hsrc hzz
            have hs12r := hb3
            refine hKQ.out _ _ hs12r ?_
            clear hKQ KQ
            try simp only [Act.put, List.setIfInBounds_toArray, List.set_cons_zero, List.set_cons_succ]
            have hzz := hb3.size
            have hsrc := hel
            refine e_callA 17 (by rfl) (by kernel_rfl) (by rfl) (fun KQ hKQ => ?_)
            refine wp_rows rp_ok (.tmp 60) (.tmp 68) (by rfl) hv8 (by rfl) (by rfl) hsrc (fun _ _ => trivial) (by unfold maxLen; rw [hl1.out]; omega) (by rw [hl1.out]; omega) hzz ?_
            intro v17 x3 hv17 hg17
            have hb4 := hb3.trans (hv8.below_app hg17 hzz)
            clear hsrc hzz
            have hs13r := hb4
            refine hKQ.out _ _ hs13r ?_
            clear hKQ KQ
            try simp only [Act.put, List.setIfInBounds_toArray, List.set_cons_zero, List.set_cons_succ]
            have hzz := hb4.size
            have hsrc := (hSb.below hb4 fun b q => q)
            refine e_callA 24 (by rfl) (by kernel_rfl) (by rfl) (fun KQ hKQ => ?_)
            refine wp_rows rp_ok (.tmp 69) (.tmp 75) (by rfl) hv17 (by rfl) (by rfl) hsrc (fun _ _ => trivial) (by unfold maxLen; rw [List.length_append, hl1.out, List.length_singleton]; omega) (by rw [List.length_append, hl1.out, List.length_singleton]; omega) hzz ?_
            intro v24 x4 hv24 hg24
            have hb5 := hb4.trans (hv17.below_app hg24 hzz)
            clear hsrc hzz
            obtain ⟨A5, c5, e5, hc5, hcm5, hS5⟩ := hv24.seen (Nat.le_refl _)
            have e24 : (L.take k ++ [(⟨id, no + 1, 0, 0⟩ : Pr)] ++ L.drop k) = L.take k ++ (⟨id, no + 1, 0, 0⟩ : Pr) :: L.drop k := by rw [List.append_assoc]; rfl
            rw [e24] at hv24 e5
            subst e5
            replace e24 := Lib.hid e24
            have hq5 := h1.below hb5 ltd
            have g5 := hq5.frozen 4
            have hz5 := hb5.size
            have ltd5 : d < x4.heap.size := Nat.lt_of_lt_of_le ltd hz5
            have c5x : x4.cell? ⟨d, 4, none⟩ = some (.slice A n c) := hq5.cellv 4 rfl
            have hn9 := own_ne_blk hv24.1 hq5 (by decide)
            have hol := hv24.1.lt
            obtain ⟨LL, hLL⟩ : ∃ LL, LL = L.take k ++ (⟨id, no + 1, 0, 0⟩ : Pr) :: L.drop k := ⟨_, rfl⟩
            rw [← hLL] at hv24 hn9 hol
            simp only [← hLL]
            replace hLL := Lib.hid hLL
            have hs14r := hb5
            refine hKQ.out _ _ hs14r ?_
            clear hKQ KQ
            try simp only [Act.put, List.setIfInBounds_toArray, List.set_cons_zero, List.set_cons_succ]
            (refine e_takeA 25 (by rfl) ?_ (by kernel_rfl) (fun _ _ _ h => h) hs14r ?_ ?_; rotate_left; (focus (intro wq hSw; have hrd := hSw; have hrd2 : ∀ b o, b < w.heap.size → wq.cell? ⟨b, o, none⟩ = w.cell? ⟨b, o, none⟩ := (fun b o h => Below.cell hSw (p := ⟨b, o, none⟩) h); go_simp; try with_reducible rfl; done)); try simp only [Act.put, List.setIfInBounds_toArray, List.set_cons_zero, List.set_cons_succ])
            (refine e_takeA 26 (by rfl) ?_ (by kernel_rfl) (fun _ _ _ h => h) hs14r ?_ ?_; rotate_left; (focus (intro wq hSw; have hrd := hSw; have hrd2 : ∀ b o, b < w.heap.size → wq.cell? ⟨b, o, none⟩ = w.cell? ⟨b, o, none⟩ := (fun b o h => Below.cell hSw (p := ⟨b, o, none⟩) h); go_simp; try with_reducible rfl; done)); try simp only [Act.put, List.setIfInBounds_toArray, List.set_cons_zero, List.set_cons_succ])
            refine e_last (by rfl) (by kernel_rfl) (by rfl) (fun KQ hKQ => ?_)
            go_simp
            obtain ⟨hq9, hg6⟩ := blk_store hq5 4 (.slice A5 LL.length c5)
            replace hq9 : Blk (x4.setCell ⟨d, 4, none⟩ (.slice A5 LL.length c5)) d 228 #[.int .i64 ev, .int .i64 pa, .int .i64 no, .int .i64 sq, .slice A5 LL.length c5] := hq9
            have hR9 : Rows rpK (x4.setCell ⟨d, 4, none⟩ (.slice A5 LL.length c5)) w.heap.size w.heap.size 250 (.slice A5 LL.length c5) LL := ⟨hv24.1.kept hg6 (.inr hn9), fun _ _ => trivial⟩
            have hz6 := hg6.size
            generalize x4.setCell ⟨d, 4, none⟩ (.slice A5 LL.length c5) = x9 at *
            refine hKQ.out _ _ ?_
            clear hKQ KQ
            try simp only [Act.put]
            refine e_done (by kernel_rfl) ?_ _
            try refine NoPanic.normal ?_
            go_wp2_with fail
            go_ret
            have hv1 : (addC L id no).1 = 0 := by rw [hv.out]
            have hv2 : (addC L id no).2 = LL := by rw [hv.out, hLL.out]
            rw [hv1, hv2]
            have hB2 := Below.refl w.heap.size w
            have hCC : Chg w x9 (fun k => k = d) := (Chg.of_below hB2).trans ((Chg.of_below (X := fun k => k = d) hb5).trans (Chg.of_grown (X := fun k => k = d) hg6 rfl) (fun _ _ q => q)) (fun _ _ q => q)
            refine ⟨rfl, fun k => Y k ∨ (w.heap.size ≤ k ∧ k < x9.heap.size), ⟨_, hq9, hR9.less (Nat.zero_le _) (Nat.zero_le _), hn9, ?_, ?_⟩, fun k q => q.imp (fun q => q) fun q => q.1, hCC.mono fun i _ q => by rw [q]; exact h4 d (.inl rfl)⟩
            · rintro j (q | q)
              · exact .inl (h4 j (.inl q))
              · have := hol j q
                exact .inr ⟨by omega, by omega⟩
            · rintro j (q | q)
              · exact Nat.lt_of_lt_of_le (h5 j q) hCC.size
              · exact q.2
        · skip
          go_simp
          have hst0 := (Below.refl (w.drew).heap.size (w.drew)).alloc (Nat.le_refl _) (.cells #[.int .i64 id, .int .i64 (no + 1), .int .i64 0, .int .i64 0] 250)
          have hb1 : Below w.heap.size w ((w.drew).alloc (.cells #[.int .i64 id, .int .i64 (no + 1), .int .i64 0, .int .i64 0] 250)) := hb0.alloc hb0.size (.cells #[.int .i64 id, .int .i64 (no + 1), .int .i64 0, .int .i64 0] 250)
          have lt16 : w.heap.size < ((w.drew).alloc (.cells #[.int .i64 id, .int .i64 (no + 1), .int .i64 0, .int .i64 0] 250)).heap.size := by simp
          have hel : Seen rpK ((w.drew).alloc (.cells #[.int .i64 id, .int .i64 (no + 1), .int .i64 0, .int .i64 0] 250)) (fun b => b = w.heap.size) (some ⟨w.heap.size, 0, none⟩) 1 [(⟨id, no + 1, 0, 0⟩ : Pr)] := seen_one (R := rpK) (S := fun _ => False) (S' := fun b => b = w.heap.size) (w.drew) 250 (⟨id, no + 1, 0, 0⟩ : Pr) #[.int .i64 id, .int .i64 (no + 1), .int .i64 0, .int .i64 0] rfl trivial (fun _ h => h.elim) rfl (fun _ h => h.elim)
          have hd : (w.alloc (.cells #[.int .i64 id, .int .i64 (no + 1), .int .i64 0, .int .i64 0] 250)).drew = w.drew.alloc (.cells #[.int .i64 id, .int .i64 (no + 1), .int .i64 0, .int .i64 0] 250) := rfl
          try rw [hd]
          clear hd
          generalize (w.drew).alloc (.cells #[.int .i64 id, .int .i64 (no + 1), .int .i64 0, .int .i64 0] 250) = x0 at *
          have hs15r := hb1
          refine hKQ.out _ _ hs15r ?_
          clear hKQ KQ
          try simp only [Act.put, List.setIfInBounds_toArray, List.set_cons_zero, List.set_cons_succ]
          refine e_callA 1 (by rfl) (by kernel_rfl) (by rfl) (fun KQ hKQ => ?_)
          go_simp
          have hst1 := (Below.refl (x0).heap.size (x0)).alloc (Nat.le_refl _) (.cells #[] 250)
          have hb2 : Below w.heap.size w ((x0).alloc (.cells #[] 250)) := hb1.alloc hb1.size (.cells #[] 250)
          have lt1 : x0.heap.size < ((x0).alloc (.cells #[] 250)).heap.size := by simp
          have hne : w.heap.size ≠ x0.heap.size := by omega
          replace hel := hel.below hst1 fun b q => by omega
          replace lt16 := Nat.lt_of_lt_of_le lt16 hst1.size
          have hr0 : Rows rpK ((x0).alloc (.cells #[] 250)) w.heap.size w.heap.size 250 (.slice (some ⟨x0.heap.size, 0, none⟩) 0 0) [] := (rp_lit (x0)).less hb1.size hb1.size
          generalize (x0).alloc (.cells #[] 250) = x1 at *
          have hs16r := hb2
          refine hKQ.out _ _ hs16r ?_
          clear hKQ KQ
          try simp only [Act.put, List.setIfInBounds_toArray, List.set_cons_zero, List.set_cons_succ]
          have hzz := hb2.size
          have hsrc := (hSa.below hb2 fun b q => q)
          refine e_callA 8 (by rfl) (by kernel_rfl) (by rfl) (fun KQ hKQ => ?_)
          refine wp_rows rp_ok (.tmp 53) (.tmp 59) (by rfl) hr0 (by rfl) (by rfl) hsrc (fun _ _ => trivial) (by unfold maxLen; simp only [List.length_nil]; omega) (by simp only [List.length_nil]; omega) hzz ?_
          intro v8 x2 hv8 hg8
          have hb3 := hb2.trans (hr0.below_app hg8 hzz)
          rw [List.nil_append] at hv8
          replace lt1 := Nat.lt_of_lt_of_le lt1 hg8.size
          replace hel := hel.grown hg8 fun b q => ⟨by omega, fun e => by have e2 : x0.heap.size = b := Option.some.inj e; omega⟩
          replace lt16 := Nat.lt_of_lt_of_le lt16 hg8.size
          clear hsrc hzz
          have hs17r := hb3
          refine hKQ.out _ _ hs17r ?_
          clear hKQ KQ
          try simp only [Act.put, List.setIfInBounds_toArray, List.set_cons_zero, List.set_cons_succ]
          have hzz := hb3.size
          have hsrc := hel
          refine e_callA 17 (by rfl) (by kernel_rfl) (by rfl) (fun KQ hKQ => ?_)
          refine wp_rows rp_ok (.tmp 60) (.tmp 68) (by rfl) hv8 (by rfl) (by rfl) hsrc (fun _ _ => trivial) (by unfold maxLen; rw [hl1.out]; omega) (by rw [hl1.out]; omega) hzz ?_
          intro v17 x3 hv17 hg17
          have hb4 := hb3.trans (hv8.below_app hg17 hzz)
          clear hsrc hzz
          have hs18r := hb4
          refine hKQ.out _ _ hs18r ?_
          clear hKQ KQ
          try simp only [Act.put, List.setIfInBounds_toArray, List.set_cons_zero, List.set_cons_succ]
          have hzz := hb4.size
          have hsrc := (hSb.below hb4 fun b q => q)
          refine e_callA 24 (by rfl) (by kernel_rfl) (by rfl) (fun KQ hKQ => ?_)
          refine wp_rows rp_ok (.tmp 69) (.tmp 75) (by rfl) hv17 (by rfl) (by rfl) hsrc (fun _ _ => trivial) (by unfold maxLen; rw [List.length_append, hl1.out, List.length_singleton]; omega) (by rw [List.length_append, hl1.out, List.length_singleton]; omega) hzz ?_
          intro v24 x4 hv24 hg24
          have hb5 := hb4.trans (hv17.below_app hg24 hzz)
          clear hsrc hzz
          obtain ⟨A5, c5, e5, hc5, hcm5, hS5⟩ := hv24.seen (Nat.le_refl _)
          have e24 : (L.take k ++ [(⟨id, no + 1, 0, 0⟩ : Pr)] ++ L.drop k) = L.take k ++ (⟨id, no + 1, 0, 0⟩ : Pr) :: L.drop k := by rw [List.append_assoc]; rfl
          rw [e24] at hv24 e5
          subst e5
          replace e24 := Lib.hid e24
          have hq5 := h1.below hb5 ltd
          have g5 := hq5.frozen 4
          have hz5 := hb5.size
          have ltd5 : d < x4.heap.size := Nat.lt_of_lt_of_le ltd hz5
          have c5x : x4.cell? ⟨d, 4, none⟩ = some (.slice A n c) := hq5.cellv 4 rfl
          have hn9 := own_ne_blk hv24.1 hq5 (by decide)
          have hol := hv24.1.lt
          obtain ⟨LL, hLL⟩ : ∃ LL, LL = L.take k ++ (⟨id, no + 1, 0, 0⟩ : Pr) :: L.drop k := ⟨_, rfl⟩
          rw [← hLL] at hv24 hn9 hol
          simp only [← hLL]
          replace hLL := Lib.hid hLL
          have hs19r := hb5
          refine hKQ.out _ _ hs19r ?_
          clear hKQ KQ
          try simp only [Act.put, List.setIfInBounds_toArray, List.set_cons_zero, List.set_cons_succ]
          (refine e_takeA 25 (by rfl) ?_ (by kernel_rfl) (fun _ _ _ h => h) hs19r ?_ ?_; rotate_left; (focus (intro wq hSw; have hrd := hSw; have hrd2 : ∀ b o, b < w.heap.size → wq.cell? ⟨b, o, none⟩ = w.cell? ⟨b, o, none⟩ := (fun b o h => Below.cell hSw (p := ⟨b, o, none⟩) h); go_simp; try with_reducible rfl; done)); try simp only [Act.put, List.setIfInBounds_toArray, List.set_cons_zero, List.set_cons_succ])
          (refine e_takeA 26 (by rfl) ?_ (by kernel_rfl) (fun _ _ _ h => h) hs19r ?_ ?_; rotate_left; (focus (intro wq hSw; have hrd := hSw; have hrd2 : ∀ b o, b < w.heap.size → wq.cell? ⟨b, o, none⟩ = w.cell? ⟨b, o, none⟩ := (fun b o h => Below.cell hSw (p := ⟨b, o, none⟩) h); go_simp; try with_reducible rfl; done)); try simp only [Act.put, List.setIfInBounds_toArray, List.set_cons_zero, List.set_cons_succ])
          refine e_last (by rfl) (by kernel_rfl) (by rfl) (fun KQ hKQ => ?_)
          go_simp
          obtain ⟨hq9, hg6⟩ := blk_store hq5 4 (.slice A5 LL.length c5)
          replace hq9 : Blk (x4.setCell ⟨d, 4, none⟩ (.slice A5 LL.length c5)) d 228 #[.int .i64 ev, .int .i64 pa, .int .i64 no, .int .i64 sq, .slice A5 LL.length c5] := hq9
          have hR9 : Rows rpK (x4.setCell ⟨d, 4, none⟩ (.slice A5 LL.length c5)) w.heap.size w.heap.size 250 (.slice A5 LL.length c5) LL := ⟨hv24.1.kept hg6 (.inr hn9), fun _ _ => trivial⟩
          have hz6 := hg6.size
          generalize x4.setCell ⟨d, 4, none⟩ (.slice A5 LL.length c5) = x9 at *
          refine hKQ.out _ _ ?_
          clear hKQ KQ
          try simp only [Act.put]
          refine e_done (by kernel_rfl) ?_ _
          try refine NoPanic.normal ?_
          go_wp2_with fail
          go_ret
          have hv1 : (addC L id no).1 = 0 := by rw [hv.out]
          have hv2 : (addC L id no).2 = LL := by rw [hv.out, hLL.out]
          rw [hv1, hv2]
          have hB2 := Below.refl w.heap.size w
          have hCC : Chg w x9 (fun k => k = d) := (Chg.of_below hB2).trans ((Chg.of_below (X := fun k => k = d) hb5).trans (Chg.of_grown (X := fun k => k = d) hg6 rfl) (fun _ _ q => q)) (fun _ _ q => q)
          refine ⟨rfl, fun k => Y k ∨ (w.heap.size ≤ k ∧ k < x9.heap.size), ⟨_, hq9, hR9.less (Nat.zero_le _) (Nat.zero_le _), hn9, ?_, ?_⟩, fun k q => q.imp (fun q => q) fun q => q.1, hCC.mono fun i _ q => by rw [q]; exact h4 d (.inl rfl)⟩
          · rintro j (q | q)
            · exact .inl (h4 j (.inl q))
            · have := hol j q
              exact .inr ⟨by omega, by omega⟩
          · rintro j (q | q)
            · exact Nat.lt_of_lt_of_le (h5 j q) hCC.size
            · exact q.2
  · have hkn : L[k]? = none := List.getElem?_eq_none (by have := hn2.out; omega)
    have hv := Lib.hid (ecut fun x hx => by rw [hkn] at hx; cases hx)
    replace hkn := Lib.hid hkn
    have hki : decide ((k : Int) < (n : Int)) = false := by simp; omega
    go_upto_region 8 with (fail)
    obtain ⟨A1, hs1, hr1⟩ := row_take elem_rp size_rp A n c k (by omega) hnc
    obtain ⟨A2, hs2, hr2⟩ := row_drop elem_rp size_rp A n c k (by omega) hnc
    have hSa := hr1 _ _ _ hS0
    have hSb := hr2 _ _ _ hS0
    have hl1 := Lib.hid (show (L.take k).length = k by rw [List.length_take]; have := hn2.out; omega)
    clear hr1 hr2 hf ecut hdist
    -- region 8: 0 1M 2 3 4 5 6 7 8M 9 10 11 12 13 14 15 16M 17M 18 19 20 21 22 23 24M 25 26 27M
    try refine wp_region_noPanic ?_
    have hs20r : (fun w' => Below w.heap.size w w') w.drew := (Below.refl _ _).drew
    refine wp_region_E 27 (S := fun w' => Below w.heap.size w w') (by kernel_rfl) hs20r (fun _ => ?_)
    (refine e_takeA 0 (by rfl) ?_ (by kernel_rfl) (fun _ _ _ h => h) hs20r ?_ ?_; rotate_left; (focus (intro wq hSw; have hrd := hSw; have hrd2 : ∀ b o, b < w.heap.size → wq.cell? ⟨b, o, none⟩ = w.cell? ⟨b, o, none⟩ := (fun b o h => Below.cell hSw (p := ⟨b, o, none⟩) h); go_simp; try with_reducible rfl; done)); try simp only [Act.put, List.setIfInBounds_toArray, List.set_cons_zero, List.set_cons_succ])
    (refine e_takeA 2 (by rfl) ?_ (by kernel_rfl) (fun _ _ _ h => h) hs20r ?_ ?_; rotate_left; (focus (intro wq hSw; have hrd := hSw; have hrd2 : ∀ b o, b < w.heap.size → wq.cell? ⟨b, o, none⟩ = w.cell? ⟨b, o, none⟩ := (fun b o h => Below.cell hSw (p := ⟨b, o, none⟩) h); go_simp; try with_reducible rfl; done)); try simp only [Act.put, List.setIfInBounds_toArray, List.set_cons_zero, List.set_cons_succ])
    (refine e_takeA 3 (by rfl) ?_ (by kernel_rfl) (fun _ _ _ h => h) hs20r ?_ ?_; rotate_left; (focus (intro wq hSw; have hrd := hSw; have hrd2 : ∀ b o, b < w.heap.size → wq.cell? ⟨b, o, none⟩ = w.cell? ⟨b, o, none⟩ := (fun b o h => Below.cell hSw (p := ⟨b, o, none⟩) h); go_simp; try with_reducible rfl; done)); try simp only [Act.put, List.setIfInBounds_toArray, List.set_cons_zero, List.set_cons_succ])
    (refine e_takeA 4 (by rfl) ?_ (by kernel_rfl) (fun _ _ _ h => h) hs20r ?_ ?_; rotate_left; (focus (intro wq hSw; have hrd := hSw; have hrd2 : ∀ b o, b < w.heap.size → wq.cell? ⟨b, o, none⟩ = w.cell? ⟨b, o, none⟩ := (fun b o h => Below.cell hSw (p := ⟨b, o, none⟩) h); go_simp; try with_reducible rfl; done)); try simp only [Act.put, List.setIfInBounds_toArray, List.set_cons_zero, List.set_cons_succ])
    (refine e_takeA 5 (by rfl) ?_ (by kernel_rfl) (fun _ _ _ h => h) hs20r ?_ ?_; rotate_left; (focus (intro wq hSw; have hrd := hSw; have hrd2 : ∀ b o, b < w.heap.size → wq.cell? ⟨b, o, none⟩ = w.cell? ⟨b, o, none⟩ := (fun b o h => Below.cell hSw (p := ⟨b, o, none⟩) h); go_simp; try with_reducible rfl; done)); try simp only [Act.put, List.setIfInBounds_toArray, List.set_cons_zero, List.set_cons_succ])
    (refine e_takeA 6 (by rfl) ?_ (by kernel_rfl) (fun _ _ _ h => h) hs20r ?_ ?_; rotate_left; (focus (intro wq hSw; have hrd := hSw; have hrd2 : ∀ b o, b < w.heap.size → wq.cell? ⟨b, o, none⟩ = w.cell? ⟨b, o, none⟩ := (fun b o h => Below.cell hSw (p := ⟨b, o, none⟩) h); go_simp; try with_reducible rfl; done)); try simp only [Act.put, List.setIfInBounds_toArray, List.set_cons_zero, List.set_cons_succ])
    (refine e_takeA 7 (by rfl) ?_ (by kernel_rfl) (fun _ _ _ h => h) hs20r ?_ ?_; rotate_left; (focus (intro wq hSw; have hrd := hSw; have hrd2 : ∀ b o, b < w.heap.size → wq.cell? ⟨b, o, none⟩ = w.cell? ⟨b, o, none⟩ := (fun b o h => Below.cell hSw (p := ⟨b, o, none⟩) h); go_simp; try with_reducible rfl; done)); try simp only [Act.put, List.setIfInBounds_toArray, List.set_cons_zero, List.set_cons_succ])
    (refine e_takeA 9 (by rfl) ?_ (by kernel_rfl) (fun _ _ _ h => h) hs20r ?_ ?_; rotate_left; (focus (intro wq hSw; have hrd := hSw; have hrd2 : ∀ b o, b < w.heap.size → wq.cell? ⟨b, o, none⟩ = w.cell? ⟨b, o, none⟩ := (fun b o h => Below.cell hSw (p := ⟨b, o, none⟩) h); go_simp; try with_reducible rfl; done)); try simp only [Act.put, List.setIfInBounds_toArray, List.set_cons_zero, List.set_cons_succ])
    (refine e_takeA 10 (by rfl) ?_ (by kernel_rfl) (fun _ _ _ h => h) hs20r ?_ ?_; rotate_left; (focus (intro wq hSw; have hrd := hSw; have hrd2 : ∀ b o, b < w.heap.size → wq.cell? ⟨b, o, none⟩ = w.cell? ⟨b, o, none⟩ := (fun b o h => Below.cell hSw (p := ⟨b, o, none⟩) h); go_simp; try with_reducible rfl; done)); try simp only [Act.put, List.setIfInBounds_toArray, List.set_cons_zero, List.set_cons_succ])
    (refine e_takeA 11 (by rfl) ?_ (by kernel_rfl) (fun _ _ _ h => h) hs20r ?_ ?_; rotate_left; (focus (intro wq hSw; have hrd := hSw; have hrd2 : ∀ b o, b < w.heap.size → wq.cell? ⟨b, o, none⟩ = w.cell? ⟨b, o, none⟩ := (fun b o h => Below.cell hSw (p := ⟨b, o, none⟩) h); go_simp; try with_reducible rfl; done)); try simp only [Act.put, List.setIfInBounds_toArray, List.set_cons_zero, List.set_cons_succ])
    (refine e_takeA 12 (by rfl) ?_ (by kernel_rfl) (fun _ _ _ h => h) hs20r ?_ ?_; rotate_left; (focus (intro wq hSw; have hrd := hSw; have hrd2 : ∀ b o, b < w.heap.size → wq.cell? ⟨b, o, none⟩ = w.cell? ⟨b, o, none⟩ := (fun b o h => Below.cell hSw (p := ⟨b, o, none⟩) h); go_simp; try with_reducible rfl; done)); try simp only [Act.put, List.setIfInBounds_toArray, List.set_cons_zero, List.set_cons_succ])
    (refine e_takeA 13 (by rfl) ?_ (by kernel_rfl) (fun _ _ _ h => h) hs20r ?_ ?_; rotate_left; (focus (intro wq hSw; have hrd := hSw; have hrd2 : ∀ b o, b < w.heap.size → wq.cell? ⟨b, o, none⟩ = w.cell? ⟨b, o, none⟩ := (fun b o h => Below.cell hSw (p := ⟨b, o, none⟩) h); go_simp; try with_reducible rfl; done)); try simp only [Act.put, List.setIfInBounds_toArray, List.set_cons_zero, List.set_cons_succ])
    (refine e_takeA 14 (by rfl) ?_ (by kernel_rfl) (fun _ _ _ h => h) hs20r ?_ ?_; rotate_left; (focus (intro wq hSw; have hrd := hSw; have hrd2 : ∀ b o, b < w.heap.size → wq.cell? ⟨b, o, none⟩ = w.cell? ⟨b, o, none⟩ := (fun b o h => Below.cell hSw (p := ⟨b, o, none⟩) h); go_simp; try with_reducible rfl; done)); try simp only [Act.put, List.setIfInBounds_toArray, List.set_cons_zero, List.set_cons_succ])
    (refine e_takeA 15 (by rfl) ?_ (by kernel_rfl) (fun _ _ _ h => h) hs20r ?_ ?_; rotate_left; (focus (intro wq hSw; have hrd := hSw; have hrd2 : ∀ b o, b < w.heap.size → wq.cell? ⟨b, o, none⟩ = w.cell? ⟨b, o, none⟩ := (fun b o h => Below.cell hSw (p := ⟨b, o, none⟩) h); go_simp; try with_reducible rfl; done)); try simp only [Act.put, List.setIfInBounds_toArray, List.set_cons_zero, List.set_cons_succ])
    (refine e_takeA 18 (by rfl) ?_ (by kernel_rfl) (fun _ _ _ h => h) hs20r ?_ ?_; rotate_left; (focus (intro wq hSw; have hrd := hSw; have hrd2 : ∀ b o, b < w.heap.size → wq.cell? ⟨b, o, none⟩ = w.cell? ⟨b, o, none⟩ := (fun b o h => Below.cell hSw (p := ⟨b, o, none⟩) h); go_simp; try with_reducible rfl; done)); try simp only [Act.put, List.setIfInBounds_toArray, List.set_cons_zero, List.set_cons_succ])
    (refine e_takeA 19 (by rfl) ?_ (by kernel_rfl) (fun _ _ _ h => h) hs20r ?_ ?_; rotate_left; (focus (intro wq hSw; have hrd := hSw; have hrd2 : ∀ b o, b < w.heap.size → wq.cell? ⟨b, o, none⟩ = w.cell? ⟨b, o, none⟩ := (fun b o h => Below.cell hSw (p := ⟨b, o, none⟩) h); go_simp; try with_reducible rfl; done)); try simp only [Act.put, List.setIfInBounds_toArray, List.set_cons_zero, List.set_cons_succ])
    (refine e_takeA 20 (by rfl) ?_ (by kernel_rfl) (fun _ _ _ h => h) hs20r ?_ ?_; rotate_left; (focus (intro wq hSw; have hrd := hSw; have hrd2 : ∀ b o, b < w.heap.size → wq.cell? ⟨b, o, none⟩ = w.cell? ⟨b, o, none⟩ := (fun b o h => Below.cell hSw (p := ⟨b, o, none⟩) h); go_simp; try with_reducible rfl; done)); try simp only [Act.put, List.setIfInBounds_toArray, List.set_cons_zero, List.set_cons_succ])
    (refine e_takeA 21 (by rfl) ?_ (by kernel_rfl) (fun _ _ _ h => h) hs20r ?_ ?_; rotate_left; (focus (intro wq hSw; have hrd := hSw; have hrd2 : ∀ b o, b < w.heap.size → wq.cell? ⟨b, o, none⟩ = w.cell? ⟨b, o, none⟩ := (fun b o h => Below.cell hSw (p := ⟨b, o, none⟩) h); go_simp; try with_reducible rfl; done)); try simp only [Act.put, List.setIfInBounds_toArray, List.set_cons_zero, List.set_cons_succ])
    (refine e_takeA 22 (by rfl) ?_ (by kernel_rfl) (fun _ _ _ h => h) hs20r ?_ ?_; rotate_left; (focus (intro wq hSw; have hrd := hSw; have hrd2 : ∀ b o, b < w.heap.size → wq.cell? ⟨b, o, none⟩ = w.cell? ⟨b, o, none⟩ := (fun b o h => Below.cell hSw (p := ⟨b, o, none⟩) h); go_simp; try with_reducible rfl; done)); try simp only [Act.put, List.setIfInBounds_toArray, List.set_cons_zero, List.set_cons_succ])
    (refine e_takeA 23 (by rfl) ?_ (by kernel_rfl) (fun _ _ _ h => h) hs20r ?_ ?_; rotate_left; (focus (intro wq hSw; have hrd := hSw; have hrd2 : ∀ b o, b < w.heap.size → wq.cell? ⟨b, o, none⟩ = w.cell? ⟨b, o, none⟩ := (fun b o h => Below.cell hSw (p := ⟨b, o, none⟩) h); go_simp; try with_reducible rfl; done)); try simp only [Act.put, List.setIfInBounds_toArray, List.set_cons_zero, List.set_cons_succ])
    have hb0 : Below w.heap.size w w.drew := (Below.refl _ _).drew
    refine e_two 1 16 (by rfl) (by rfl) (by kernel_rfl) (by rfl) (by rfl) (fun KQ hKQ => ?_) (fun KQ hKQ => ?_)
    · skip
      go_simp
      have hst0 := (Below.refl (w.drew).heap.size (w.drew)).alloc (Nat.le_refl _) (.cells #[] 250)
      have hb1 : Below w.heap.size w ((w.drew).alloc (.cells #[] 250)) := hb0.alloc hb0.size (.cells #[] 250)
      have lt1 : w.heap.size < ((w.drew).alloc (.cells #[] 250)).heap.size := by simp
      have hr0 : Rows rpK ((w.drew).alloc (.cells #[] 250)) w.heap.size w.heap.size 250 (.slice (some ⟨w.heap.size, 0, none⟩) 0 0) [] := (rp_lit (w.drew)).less hb0.size hb0.size
      have hd : (w.alloc (.cells #[] 250)).drew = w.drew.alloc (.cells #[] 250) := rfl
      try rw [hd]
      clear hd
      generalize (w.drew).alloc (.cells #[] 250) = x0 at *
      have hs21r := hb1
      refine hKQ.out _ _ hs21r ?_
      clear hKQ KQ
      try simp only [Act.put, List.setIfInBounds_toArray, List.set_cons_zero, List.set_cons_succ]
      refine e_two 8 16 (by rfl) (by rfl) (by kernel_rfl) (by rfl) (by rfl) (fun KQ hKQ => ?_) (fun KQ hKQ => ?_)
      · skip
        have hzz := hb1.size
        have hsrc := (hSa.below hb1 fun b q => q)
        refine wp_rows rp_ok (.tmp 53) (.tmp 59) (by rfl) hr0 (by rfl) (by rfl) hsrc (fun _ _ => trivial) (by unfold maxLen; simp only [List.length_nil]; omega) (by simp only [List.length_nil]; omega) hzz ?_
        intro v8 x1 hv8 hg8
        have hb2 := hb1.trans (hr0.below_app hg8 hzz)
        rw [List.nil_append] at hv8
        replace lt1 := Nat.lt_of_lt_of_le lt1 hg8.size
        clear hsrc hzz
        have hs22r := hb2
        refine hKQ.out _ _ hs22r ?_
        clear hKQ KQ
        try simp only [Act.put, List.setIfInBounds_toArray, List.set_cons_zero, List.set_cons_succ]
        refine e_callA 16 (by rfl) (by kernel_rfl) (by rfl) (fun KQ hKQ => ?_)
        go_simp
        have hst2 := (Below.refl (x1).heap.size (x1)).alloc (Nat.le_refl _) (.cells #[.int .i64 id, .int .i64 (no + 1), .int .i64 0, .int .i64 0] 250)
        have hb3 : Below w.heap.size w ((x1).alloc (.cells #[.int .i64 id, .int .i64 (no + 1), .int .i64 0, .int .i64 0] 250)) := hb2.alloc hb2.size (.cells #[.int .i64 id, .int .i64 (no + 1), .int .i64 0, .int .i64 0] 250)
        have lt16 : x1.heap.size < ((x1).alloc (.cells #[.int .i64 id, .int .i64 (no + 1), .int .i64 0, .int .i64 0] 250)).heap.size := by simp
        have hne : w.heap.size ≠ x1.heap.size := by omega
        replace hv8 := hv8.below hst2
        replace lt1 := Nat.lt_of_lt_of_le lt1 hst2.size
        have hel : Seen rpK ((x1).alloc (.cells #[.int .i64 id, .int .i64 (no + 1), .int .i64 0, .int .i64 0] 250)) (fun b => b = x1.heap.size) (some ⟨x1.heap.size, 0, none⟩) 1 [(⟨id, no + 1, 0, 0⟩ : Pr)] := seen_one (R := rpK) (S := fun _ => False) (S' := fun b => b = x1.heap.size) (x1) 250 (⟨id, no + 1, 0, 0⟩ : Pr) #[.int .i64 id, .int .i64 (no + 1), .int .i64 0, .int .i64 0] rfl trivial (fun _ h => h.elim) rfl (fun _ h => h.elim)
        generalize (x1).alloc (.cells #[.int .i64 id, .int .i64 (no + 1), .int .i64 0, .int .i64 0] 250) = x2 at *
        have hs23r := hb3
        refine hKQ.out _ _ hs23r ?_
        clear hKQ KQ
        try simp only [Act.put, List.setIfInBounds_toArray, List.set_cons_zero, List.set_cons_succ]
        have hzz := hb3.size
        have hsrc := hel
        refine e_callA 17 (by rfl) (by kernel_rfl) (by rfl) (fun KQ hKQ => ?_)
        refine wp_rows rp_ok (.tmp 60) (.tmp 68) (by rfl) hv8 (by rfl) (by rfl) hsrc (fun _ _ => trivial) (by unfold maxLen; rw [hl1.out]; omega) (by rw [hl1.out]; omega) hzz ?_
        intro v17 x3 hv17 hg17
        have hb4 := hb3.trans (hv8.below_app hg17 hzz)
        clear hsrc hzz
        have hs24r := hb4
        refine hKQ.out _ _ hs24r ?_
        clear hKQ KQ
        try simp only [Act.put, List.setIfInBounds_toArray, List.set_cons_zero, List.set_cons_succ]
        have hzz := hb4.size
        have hsrc := (hSb.below hb4 fun b q => q)
        refine e_callA 24 (by rfl) (by kernel_rfl) (by rfl) (fun KQ hKQ => ?_)
        refine wp_rows rp_ok (.tmp 69) (.tmp 75) (by rfl) hv17 (by rfl) (by rfl) hsrc (fun _ _ => trivial) (by unfold maxLen; rw [List.length_append, hl1.out, List.length_singleton]; omega) (by rw [List.length_append, hl1.out, List.length_singleton]; omega) hzz ?_
        intro v24 x4 hv24 hg24
        have hb5 := hb4.trans (hv17.below_app hg24 hzz)
        clear hsrc hzz
        obtain ⟨A5, c5, e5, hc5, hcm5, hS5⟩ := hv24.seen (Nat.le_refl _)
        have e24 : (L.take k ++ [(⟨id, no + 1, 0, 0⟩ : Pr)] ++ L.drop k) = L.take k ++ (⟨id, no + 1, 0, 0⟩ : Pr) :: L.drop k := by rw [List.append_assoc]; rfl
        rw [e24] at hv24 e5
        subst e5
        replace e24 := Lib.hid e24
        have hq5 := h1.below hb5 ltd
        have g5 := hq5.frozen 4
        have hz5 := hb5.size
        have ltd5 : d < x4.heap.size := Nat.lt_of_lt_of_le ltd hz5
        have c5x : x4.cell? ⟨d, 4, none⟩ = some (.slice A n c) := hq5.cellv 4 rfl
        have hn9 := own_ne_blk hv24.1 hq5 (by decide)
        have hol := hv24.1.lt
        obtain ⟨LL, hLL⟩ : ∃ LL, LL = L.take k ++ (⟨id, no + 1, 0, 0⟩ : Pr) :: L.drop k := ⟨_, rfl⟩
        rw [← hLL] at hv24 hn9 hol
        simp only [← hLL]
        replace hLL := Lib.hid hLL
        have hs25r := hb5
        refine hKQ.out _ _ hs25r ?_
        clear hKQ KQ
        try simp only [Act.put, List.setIfInBounds_toArray, List.set_cons_zero, List.set_cons_succ]
        (refine e_takeA 25 (by rfl) ?_ (by kernel_rfl) (fun _ _ _ h => h) hs25r ?_ ?_; rotate_left; (focus (intro wq hSw; have hrd := hSw; have hrd2 : ∀ b o, b < w.heap.size → wq.cell? ⟨b, o, none⟩ = w.cell? ⟨b, o, none⟩ := (fun b o h => Below.cell hSw (p := ⟨b, o, none⟩) h); go_simp; try with_reducible rfl; done)); try simp only [Act.put, List.setIfInBounds_toArray, List.set_cons_zero, List.set_cons_succ])
        (refine e_takeA 26 (by rfl) ?_ (by kernel_rfl) (fun _ _ _ h => h) hs25r ?_ ?_; rotate_left; (focus (intro wq hSw; have hrd := hSw; have hrd2 : ∀ b o, b < w.heap.size → wq.cell? ⟨b, o, none⟩ = w.cell? ⟨b, o, none⟩ := (fun b o h => Below.cell hSw (p := ⟨b, o, none⟩) h); go_simp; try with_reducible rfl; done)); try simp only [Act.put, List.setIfInBounds_toArray, List.set_cons_zero, List.set_cons_succ])
        refine e_last (by rfl) (by kernel_rfl) (by rfl) (fun KQ hKQ => ?_)
        go_simp
        obtain ⟨hq9, hg6⟩ := blk_store hq5 4 (.slice A5 LL.length c5)
        replace hq9 : Blk (x4.setCell ⟨d, 4, none⟩ (.slice A5 LL.length c5)) d 228 #[.int .i64 ev, .int .i64 pa, .int .i64 no, .int .i64 sq, .slice A5 LL.length c5] := hq9
        have hR9 : Rows rpK (x4.setCell ⟨d, 4, none⟩ (.slice A5 LL.length c5)) w.heap.size w.heap.size 250 (.slice A5 LL.length c5) LL := ⟨hv24.1.kept hg6 (.inr hn9), fun _ _ => trivial⟩
        have hz6 := hg6.size
        generalize x4.setCell ⟨d, 4, none⟩ (.slice A5 LL.length c5) = x9 at *
        refine hKQ.out _ _ ?_
        clear hKQ KQ
        try simp only [Act.put]
        refine e_done (by kernel_rfl) ?_ _
        try refine NoPanic.normal ?_
        go_wp2_with fail
        go_ret
        have hv1 : (addC L id no).1 = 0 := by rw [hv.out]
        have hv2 : (addC L id no).2 = LL := by rw [hv.out, hLL.out]
        rw [hv1, hv2]
        have hB2 := Below.refl w.heap.size w
        have hCC : Chg w x9 (fun k => k = d) := (Chg.of_below hB2).trans ((Chg.of_below (X := fun k => k = d) hb5).trans (Chg.of_grown (X := fun k => k = d) hg6 rfl) (fun _ _ q => q)) (fun _ _ q => q)
        refine ⟨rfl, fun k => Y k ∨ (w.heap.size ≤ k ∧ k < x9.heap.size), ⟨_, hq9, hR9.less (Nat.zero_le _) (Nat.zero_le _), hn9, ?_, ?_⟩, fun k q => q.imp (fun q => q) fun q => q.1, hCC.mono fun i _ q => by rw [q]; exact h4 d (.inl rfl)⟩
        · rintro j (q | q)
          · exact .inl (h4 j (.inl q))
          · have := hol j q
            exact .inr ⟨by omega, by omega⟩
        · rintro j (q | q)
          · exact Nat.lt_of_lt_of_le (h5 j q) hCC.size
          · exact q.2
      · skip
        go_simp
        have hst1 := (Below.refl (x0).heap.size (x0)).alloc (Nat.le_refl _) (.cells #[.int .i64 id, .int .i64 (no + 1), .int .i64 0, .int .i64 0] 250)
        have hb2 : Below w.heap.size w ((x0).alloc (.cells #[.int .i64 id, .int .i64 (no + 1), .int .i64 0, .int .i64 0] 250)) := hb1.alloc hb1.size (.cells #[.int .i64 id, .int .i64 (no + 1), .int .i64 0, .int .i64 0] 250)
        have lt16 : x0.heap.size < ((x0).alloc (.cells #[.int .i64 id, .int .i64 (no + 1), .int .i64 0, .int .i64 0] 250)).heap.size := by simp
        have hne : w.heap.size ≠ x0.heap.size := by omega
        replace hr0 := hr0.below hst1
        replace lt1 := Nat.lt_of_lt_of_le lt1 hst1.size
        have hel : Seen rpK ((x0).alloc (.cells #[.int .i64 id, .int .i64 (no + 1), .int .i64 0, .int .i64 0] 250)) (fun b => b = x0.heap.size) (some ⟨x0.heap.size, 0, none⟩) 1 [(⟨id, no + 1, 0, 0⟩ : Pr)] := seen_one (R := rpK) (S := fun _ => False) (S' := fun b => b = x0.heap.size) (x0) 250 (⟨id, no + 1, 0, 0⟩ : Pr) #[.int .i64 id, .int .i64 (no + 1), .int .i64 0, .int .i64 0] rfl trivial (fun _ h => h.elim) rfl (fun _ h => h.elim)
        generalize (x0).alloc (.cells #[.int .i64 id, .int .i64 (no + 1), .int .i64 0, .int .i64 0] 250) = x1 at *
        have hs26r := hb2
        refine hKQ.out _ _ hs26r ?_
        clear hKQ KQ
        try simp only [Act.put, List.setIfInBounds_toArray, List.set_cons_zero, List.set_cons_succ]
        have hzz := hb2.size
        have hsrc := (hSa.below hb2 fun b q => q)
        refine e_callA 8 (by rfl) (by kernel_rfl) (by rfl) (fun KQ hKQ => ?_)
        refine wp_rows rp_ok (.tmp 53) (.tmp 59) (by rfl) hr0 (by rfl) (by rfl) hsrc (fun _ _ => trivial) (by unfold maxLen; simp only [List.length_nil]; omega) (by simp only [List.length_nil]; omega) hzz ?_
        intro v8 x2 hv8 hg8
        have hb3 := hb2.trans (hr0.below_app hg8 hzz)
        rw [List.nil_append] at hv8
        replace lt1 := Nat.lt_of_lt_of_le lt1 hg8.size
        replace hel := hel.grown hg8 fun b q => ⟨by omega, fun e => by have e2 : w.heap.size = b := Option.some.inj e; omega⟩
        replace lt16 := Nat.lt_of_lt_of_le lt16 hg8.size
        clear hsrc hzz
        have hs27r := hb3
        refine hKQ.out _ _ hs27r ?_
        clear hKQ KQ
        try simp only [Act.put, List.setIfInBounds_toArray, List.set_cons_zero, List.set_cons_succ]
        have hzz := hb3.size
        have hsrc := hel
        refine e_callA 17 (by rfl) (by kernel_rfl) (by rfl) (fun KQ hKQ => ?_)
        refine wp_rows rp_ok (.tmp 60) (.tmp 68) (by rfl) hv8 (by rfl) (by rfl) hsrc (fun _ _ => trivial) (by unfold maxLen; rw [hl1.out]; omega) (by rw [hl1.out]; omega) hzz ?_
        intro v17 x3 hv17 hg17
        have hb4 := hb3.trans (hv8.below_app hg17 hzz)
        clear hsrc hzz
        have hs28r := hb4
        refine hKQ.out _ _ hs28r ?_
        clear hKQ KQ
        try simp only [Act.put, List.setIfInBounds_toArray, List.set_cons_zero, List.set_cons_succ]
        have hzz := hb4.size
        have hsrc := (hSb.below hb4 fun b q => q)
        refine e_callA 24 (by rfl) (by kernel_rfl) (by rfl) (fun KQ hKQ => ?_)
        refine wp_rows rp_ok (.tmp 69) (.tmp 75) (by rfl) hv17 (by rfl) (by rfl) hsrc (fun _ _ => trivial) (by unfold maxLen; rw [List.length_append, hl1.out, List.length_singleton]; omega) (by rw [List.length_append, hl1.out, List.length_singleton]; omega) hzz ?_
        intro v24 x4 hv24 hg24
        have hb5 := hb4.trans (hv17.below_app hg24 hzz)
        clear hsrc hzz
        obtain ⟨A5, c5, e5, hc5, hcm5, hS5⟩ := hv24.seen (Nat.le_refl _)
        have e24 : (L.take k ++ [(⟨id, no + 1, 0, 0⟩ : Pr)] ++ L.drop k) = L.take k ++ (⟨id, no + 1, 0, 0⟩ : Pr) :: L.drop k := by rw [List.append_assoc]; rfl
        rw [e24] at hv24 e5
        subst e5
        replace e24 := Lib.hid e24
        have hq5 := h1.below hb5 ltd
        have g5 := hq5.frozen 4
        have hz5 := hb5.size
        have ltd5 : d < x4.heap.size := Nat.lt_of_lt_of_le ltd hz5
        have c5x : x4.cell? ⟨d, 4, none⟩ = some (.slice A n c) := hq5.cellv 4 rfl
        have hn9 := own_ne_blk hv24.1 hq5 (by decide)
        have hol := hv24.1.lt
        obtain ⟨LL, hLL⟩ : ∃ LL, LL = L.take k ++ (⟨id, no + 1, 0, 0⟩ : Pr) :: L.drop k := ⟨_, rfl⟩
        rw [← hLL] at hv24 hn9 hol
        simp only [← hLL]
        replace hLL := Lib.hid hLL
        have hs29r := hb5
        refine hKQ.out _ _ hs29r ?_
        clear hKQ KQ
        try simp only [Act.put, List.setIfInBounds_toArray, List.set_cons_zero, List.set_cons_succ]
        (refine e_takeA 25 (by rfl) ?_ (by kernel_rfl) (fun _ _ _ h => h) hs29r ?_ ?_; rotate_left; (focus (intro wq hSw; have hrd := hSw; have hrd2 : ∀ b o, b < w.heap.size → wq.cell? ⟨b, o, none⟩ = w.cell? ⟨b, o, none⟩ := (fun b o h => Below.cell hSw (p := ⟨b, o, none⟩) h); go_simp; try with_reducible rfl; done)); try simp only [Act.put, List.setIfInBounds_toArray, List.set_cons_zero, List.set_cons_succ])
        (refine e_takeA 26 (by rfl) ?_ (by kernel_rfl) (fun _ _ _ h => h) hs29r ?_ ?_; rotate_left; (focus (intro wq hSw; have hrd := hSw; have hrd2 : ∀ b o, b < w.heap.size → wq.cell? ⟨b, o, none⟩ = w.cell? ⟨b, o, none⟩ := (fun b o h => Below.cell hSw (p := ⟨b, o, none⟩) h); go_simp; try with_reducible rfl; done)); try simp only [Act.put, List.setIfInBounds_toArray, List.set_cons_zero, List.set_cons_succ])
        refine e_last (by rfl) (by kernel_rfl) (by rfl) (fun KQ hKQ => ?_)
        go_simp
        obtain ⟨hq9, hg6⟩ := blk_store hq5 4 (.slice A5 LL.length c5)
        replace hq9 : Blk (x4.setCell ⟨d, 4, none⟩ (.slice A5 LL.length c5)) d 228 #[.int .i64 ev, .int .i64 pa, .int .i64 no, .int .i64 sq, .slice A5 LL.length c5] := hq9
        have hR9 : Rows rpK (x4.setCell ⟨d, 4, none⟩ (.slice A5 LL.length c5)) w.heap.size w.heap.size 250 (.slice A5 LL.length c5) LL := ⟨hv24.1.kept hg6 (.inr hn9), fun _ _ => trivial⟩
        have hz6 := hg6.size
        generalize x4.setCell ⟨d, 4, none⟩ (.slice A5 LL.length c5) = x9 at *
        refine hKQ.out _ _ ?_
        clear hKQ KQ
        try simp only [Act.put]
        refine e_done (by kernel_rfl) ?_ _
        try refine NoPanic.normal ?_
        go_wp2_with fail
        go_ret
        have hv1 : (addC L id no).1 = 0 := by rw [hv.out]
        have hv2 : (addC L id no).2 = LL := by rw [hv.out, hLL.out]
        rw [hv1, hv2]
        have hB2 := Below.refl w.heap.size w
        have hCC : Chg w x9 (fun k => k = d) := (Chg.of_below hB2).trans ((Chg.of_below (X := fun k => k = d) hb5).trans (Chg.of_grown (X := fun k => k = d) hg6 rfl) (fun _ _ q => q)) (fun _ _ q => q)
        refine ⟨rfl, fun k => Y k ∨ (w.heap.size ≤ k ∧ k < x9.heap.size), ⟨_, hq9, hR9.less (Nat.zero_le _) (Nat.zero_le _), hn9, ?_, ?_⟩, fun k q => q.imp (fun q => q) fun q => q.1, hCC.mono fun i _ q => by rw [q]; exact h4 d (.inl rfl)⟩
        · rintro j (q | q)
          · exact .inl (h4 j (.inl q))
          · have := hol j q
            exact .inr ⟨by omega, by omega⟩
        · rintro j (q | q)
          · exact Nat.lt_of_lt_of_le (h5 j q) hCC.size
          · exact q.2
    · skip
      go_simp
      have hst0 := (Below.refl (w.drew).heap.size (w.drew)).alloc (Nat.le_refl _) (.cells #[.int .i64 id, .int .i64 (no + 1), .int .i64 0, .int .i64 0] 250)
      have hb1 : Below w.heap.size w ((w.drew).alloc (.cells #[.int .i64 id, .int .i64 (no + 1), .int .i64 0, .int .i64 0] 250)) := hb0.alloc hb0.size (.cells #[.int .i64 id, .int .i64 (no + 1), .int .i64 0, .int .i64 0] 250)
      have lt16 : w.heap.size < ((w.drew).alloc (.cells #[.int .i64 id, .int .i64 (no + 1), .int .i64 0, .int .i64 0] 250)).heap.size := by simp
      have hel : Seen rpK ((w.drew).alloc (.cells #[.int .i64 id, .int .i64 (no + 1), .int .i64 0, .int .i64 0] 250)) (fun b => b = w.heap.size) (some ⟨w.heap.size, 0, none⟩) 1 [(⟨id, no + 1, 0, 0⟩ : Pr)] := seen_one (R := rpK) (S := fun _ => False) (S' := fun b => b = w.heap.size) (w.drew) 250 (⟨id, no + 1, 0, 0⟩ : Pr) #[.int .i64 id, .int .i64 (no + 1), .int .i64 0, .int .i64 0] rfl trivial (fun _ h => h.elim) rfl (fun _ h => h.elim)
      have hd : (w.alloc (.cells #[.int .i64 id, .int .i64 (no + 1), .int .i64 0, .int .i64 0] 250)).drew = w.drew.alloc (.cells #[.int .i64 id, .int .i64 (no + 1), .int .i64 0, .int .i64 0] 250) := rfl
      try rw [hd]
      clear hd
      generalize (w.drew).alloc (.cells #[.int .i64 id, .int .i64 (no + 1), .int .i64 0, .int .i64 0] 250) = x0 at *
      have hs30r := hb1
      refine hKQ.out _ _ hs30r ?_
      clear hKQ KQ
      try simp only [Act.put, List.setIfInBounds_toArray, List.set_cons_zero, List.set_cons_succ]
      refine e_callA 1 (by rfl) (by kernel_rfl) (by rfl) (fun KQ hKQ => ?_)
      go_simp
      have hst1 := (Below.refl (x0).heap.size (x0)).alloc (Nat.le_refl _) (.cells #[] 250)
      have hb2 : Below w.heap.size w ((x0).alloc (.cells #[] 250)) := hb1.alloc hb1.size (.cells #[] 250)
      have lt1 : x0.heap.size < ((x0).alloc (.cells #[] 250)).heap.size := by simp
      have hne : w.heap.size ≠ x0.heap.size := by omega
      replace hel := hel.below hst1 fun b q => by omega
      replace lt16 := Nat.lt_of_lt_of_le lt16 hst1.size
      have hr0 : Rows rpK ((x0).alloc (.cells #[] 250)) w.heap.size w.heap.size 250 (.slice (some ⟨x0.heap.size, 0, none⟩) 0 0) [] := (rp_lit (x0)).less hb1.size hb1.size
      generalize (x0).alloc (.cells #[] 250) = x1 at *
      have hs31r := hb2
      refine hKQ.out _ _ hs31r ?_
      clear hKQ KQ
      try simp only [Act.put, List.setIfInBounds_toArray, List.set_cons_zero, List.set_cons_succ]
      have hzz := hb2.size
      have hsrc := (hSa.below hb2 fun b q => q)
      refine e_callA 8 (by rfl) (by kernel_rfl) (by rfl) (fun KQ hKQ => ?_)
      refine wp_rows rp_ok (.tmp 53) (.tmp 59) (by rfl) hr0 (by rfl) (by rfl) hsrc (fun _ _ => trivial) (by unfold maxLen; simp only [List.length_nil]; omega) (by simp only [List.length_nil]; omega) hzz ?_
      intro v8 x2 hv8 hg8
      have hb3 := hb2.trans (hr0.below_app hg8 hzz)
      rw [List.nil_append] at hv8
      replace lt1 := Nat.lt_of_lt_of_le lt1 hg8.size
      replace hel := hel.grown hg8 fun b q => ⟨by omega, fun e => by have e2 : x0.heap.size = b := Option.some.inj e; omega⟩
      replace lt16 := Nat.lt_of_lt_of_le lt16 hg8.size
      clear hsrc hzz
      have hs32r := hb3
      refine hKQ.out _ _ hs32r ?_
      clear hKQ KQ
      try simp only [Act.put, List.setIfInBounds_toArray, List.set_cons_zero, List.set_cons_succ]
      have hzz := hb3.size
      have hsrc := hel
      refine e_callA 17 (by rfl) (by kernel_rfl) (by rfl) (fun KQ hKQ => ?_)
      refine wp_rows rp_ok (.tmp 60) (.tmp 68) (by rfl) hv8 (by rfl) (by rfl) hsrc (fun _ _ => trivial) (by unfold maxLen; rw [hl1.out]; omega) (by rw [hl1.out]; omega) hzz ?_
      intro v17 x3 hv17 hg17
      have hb4 := hb3.trans (hv8.below_app hg17 hzz)
      clear hsrc hzz
      have hs33r := hb4
      refine hKQ.out _ _ hs33r ?_
      clear hKQ KQ
      try simp only [Act.put, List.setIfInBounds_toArray, List.set_cons_zero, List.set_cons_succ]
      have hzz := hb4.size
      have hsrc := (hSb.below hb4 fun b q => q)
      refine e_callA 24 (by rfl) (by kernel_rfl) (by rfl) (fun KQ hKQ => ?_)
      refine wp_rows rp_ok (.tmp 69) (.tmp 75) (by rfl) hv17 (by rfl) (by rfl) hsrc (fun _ _ => trivial) (by unfold maxLen; rw [List.length_append, hl1.out, List.length_singleton]; omega) (by rw [List.length_append, hl1.out, List.length_singleton]; omega) hzz ?_
      intro v24 x4 hv24 hg24
      have hb5 := hb4.trans (hv17.below_app hg24 hzz)
      clear hsrc hzz
      obtain ⟨A5, c5, e5, hc5, hcm5, hS5⟩ := hv24.seen (Nat.le_refl _)
      have e24 : (L.take k ++ [(⟨id, no + 1, 0, 0⟩ : Pr)] ++ L.drop k) = L.take k ++ (⟨id, no + 1, 0, 0⟩ : Pr) :: L.drop k := by rw [List.append_assoc]; rfl
      rw [e24] at hv24 e5
      subst e5
      replace e24 := Lib.hid e24
      have hq5 := h1.below hb5 ltd
      have g5 := hq5.frozen 4
      have hz5 := hb5.size
      have ltd5 : d < x4.heap.size := Nat.lt_of_lt_of_le ltd hz5
      have c5x : x4.cell? ⟨d, 4, none⟩ = some (.slice A n c) := hq5.cellv 4 rfl
      have hn9 := own_ne_blk hv24.1 hq5 (by decide)
      have hol := hv24.1.lt
      obtain ⟨LL, hLL⟩ : ∃ LL, LL = L.take k ++ (⟨id, no + 1, 0, 0⟩ : Pr) :: L.drop k := ⟨_, rfl⟩
      rw [← hLL] at hv24 hn9 hol
      simp only [← hLL]
      replace hLL := Lib.hid hLL
      have hs34r := hb5
      refine hKQ.out _ _ hs34r ?_
      clear hKQ KQ
      try simp only [Act.put, List.setIfInBounds_toArray, List.set_cons_zero, List.set_cons_succ]
      (refine e_takeA 25 (by rfl) ?_ (by kernel_rfl) (fun _ _ _ h => h) hs34r ?_ ?_; rotate_left; (focus (intro wq hSw; have hrd := hSw; have hrd2 : ∀ b o, b < w.heap.size → wq.cell? ⟨b, o, none⟩ = w.cell? ⟨b, o, none⟩ := (fun b o h => Below.cell hSw (p := ⟨b, o, none⟩) h); go_simp; try with_reducible rfl; done)); try simp only [Act.put, List.setIfInBounds_toArray, List.set_cons_zero, List.set_cons_succ])
      (refine e_takeA 26 (by rfl) ?_ (by kernel_rfl) (fun _ _ _ h => h) hs34r ?_ ?_; rotate_left; (focus (intro wq hSw; have hrd := hSw; have hrd2 : ∀ b o, b < w.heap.size → wq.cell? ⟨b, o, none⟩ = w.cell? ⟨b, o, none⟩ := (fun b o h => Below.cell hSw (p := ⟨b, o, none⟩) h); go_simp; try with_reducible rfl; done)); try simp only [Act.put, List.setIfInBounds_toArray, List.set_cons_zero, List.set_cons_succ])
      refine e_last (by rfl) (by kernel_rfl) (by rfl) (fun KQ hKQ => ?_)
      go_simp
      obtain ⟨hq9, hg6⟩ := blk_store hq5 4 (.slice A5 LL.length c5)
      replace hq9 : Blk (x4.setCell ⟨d, 4, none⟩ (.slice A5 LL.length c5)) d 228 #[.int .i64 ev, .int .i64 pa, .int .i64 no, .int .i64 sq, .slice A5 LL.length c5] := hq9
      have hR9 : Rows rpK (x4.setCell ⟨d, 4, none⟩ (.slice A5 LL.length c5)) w.heap.size w.heap.size 250 (.slice A5 LL.length c5) LL := ⟨hv24.1.kept hg6 (.inr hn9), fun _ _ => trivial⟩
      have hz6 := hg6.size
      generalize x4.setCell ⟨d, 4, none⟩ (.slice A5 LL.length c5) = x9 at *
      refine hKQ.out _ _ ?_
      clear hKQ KQ
      try simp only [Act.put]
      refine e_done (by kernel_rfl) ?_ _
      try refine NoPanic.normal ?_
      go_wp2_with fail
      go_ret
      have hv1 : (addC L id no).1 = 0 := by rw [hv.out]
      have hv2 : (addC L id no).2 = LL := by rw [hv.out, hLL.out]
      rw [hv1, hv2]
      have hB2 := Below.refl w.heap.size w
      have hCC : Chg w x9 (fun k => k = d) := (Chg.of_below hB2).trans ((Chg.of_below (X := fun k => k = d) hb5).trans (Chg.of_grown (X := fun k => k = d) hg6 rfl) (fun _ _ q => q)) (fun _ _ q => q)
      refine ⟨rfl, fun k => Y k ∨ (w.heap.size ≤ k ∧ k < x9.heap.size), ⟨_, hq9, hR9.less (Nat.zero_le _) (Nat.zero_le _), hn9, ?_, ?_⟩, fun k q => q.imp (fun q => q) fun q => q.1, hCC.mono fun i _ q => by rw [q]; exact h4 d (.inl rfl)⟩
      · rintro j (q | q)
        · exact .inl (h4 j (.inl q))
        · have := hol j q
          exact .inr ⟨by omega, by omega⟩
      · rintro j (q | q)
        · exact Nat.lt_of_lt_of_le (h5 j q) hCC.size
        · exact q.2
end Go.Proofs.Ytejgekoinbdhjaa
