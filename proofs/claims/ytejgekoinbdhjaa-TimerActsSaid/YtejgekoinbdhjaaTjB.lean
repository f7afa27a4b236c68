/- timer: the document's Cancel and Arm. -/
import Derived.Test.YtejgekoinbdhjaaTjA
namespace Go.Proofs.Ytejgekoinbdhjaa
set_option linter.unusedVariables false
open Go Go.RowKit Go.Maps

theorem elem_rw : Try.prog.underlying 208 = some (.slice (Try.prog.elem 208)) := by kernel_rfl
theorem size_rw (w : World) : (sizeOf (Try.prog.elem 208)).run Try.prog w = .ok rwK.size w := by kernel_rfl
theorem rw_lit (w : World) : Rows rwK (w.alloc (.cells #[] 243)) w.heap.size w.heap.size 243 (.slice (some ⟨w.heap.size, 0, none⟩) 0 0) [] :=
  ⟨by have := Own1.lit (base := w.heap.size) (et := 243) (size := 2) w #[] 0 (Nat.le_refl _) (Nat.zero_le _) rfl; exact this, by simp⟩
theorem eraseIdx_td {α : Type} (l : List α) (k : Nat) : l.take k ++ l.drop (k + 1) = l.eraseIdx k := by
  rw [List.eraseIdx_eq_take_drop_succ]
def dropN : List (Int × Int) → Int → Bool × List (Int × Int)
  | [], _ => (false, [])
  | r :: L, id => if r.1 = id then (true, L) else ((dropN L id).1, r :: (dropN L id).2)
theorem dropN_at : ∀ {L : List (Int × Int)} {k : Nat} {r : Int × Int} {id : Int}, L[k]? = some r → r.1 = id → (∀ j x, j < k → L[j]? = some x → x.1 ≠ id) → dropN L id = (true, L.eraseIdx k)
  | [], k, r, id, h, _, _ => by simp at h
  | a :: L, 0, r, id, h, he, _ => by
    simp at h
    subst h
    rw [dropN, if_pos he]
    rfl
  | a :: L, k + 1, r, id, h, he, hn => by
    have ha : a.1 ≠ id := hn 0 a (by omega) rfl
    rw [dropN, if_neg ha, dropN_at (L := L) (k := k) (by simpa using h) he fun j x hj hx => hn (j + 1) x (by omega) (by simpa using hx)]
    rfl
theorem dropN_none : ∀ {L : List (Int × Int)} {id : Int}, (∀ (j : Nat) (x : Int × Int), L[j]? = some x → x.1 ≠ id) → dropN L id = (false, L)
  | [], _, _ => rfl
  | a :: L, id, h => by
    rw [dropN, if_neg (h 0 a rfl), dropN_none (L := L) fun j x hx => h (j + 1) x (by simpa using hx)]
theorem dropN_len (L : List (Int × Int)) (id : Int) : (dropN L id).2.length ≤ L.length := by
  induction L with
  | nil => exact Nat.le_refl _
  | cons a L ih =>
    rw [dropN]
    split
    · simp
    · simp; omega
set_option maxRecDepth 100000 in
set_option maxHeartbeats 8000000 in
theorem refCancel (w : World) (Y : Nat → Prop) (d : Nat) (mo no : Int) (L : List (Int × Int)) (h : RefT w Y d mo no L) (hn : L.length ≤ 1000000) (id : Int) :
    Calls Try.prog 144 #[.pointer (some ⟨d, 0, none⟩), .int .i64 id] w fun e w' => e = .returned (.bool (dropN L id).1) ∧ RefT w' (fun k => Y k ∨ (w.heap.size ≤ k ∧ k < w'.heap.size)) d mo no (dropN L id).2 ∧ Chg w w' (fun k => k = d) := by
  obtain ⟨v, h1, h2, h3, h4, h5⟩ := h
  obtain ⟨A, c, rfl, hnc, hcm, hS⟩ := h2.seen (Nat.le_refl _)
  have c2 : w.cell? ⟨d, 2, none⟩ = some (.slice A L.length c) := h1.cellv 2 rfl
  have ltd := h1.lt
  have hS0 := hS.more (S' := fun b => b < w.heap.size) fun b q => q.2
  obtain ⟨n, hn2⟩ : ∃ n, n = L.length := ⟨_, rfl⟩
  rw [← hn2] at c2 hS0 hn hnc h1 h2 h3 h4
  replace hn2 := Lib.hid hn2
  clear hS
  go_enter Try.func144, Try.ntmps144
  go_wp2_with fail
  go_loopw [12] (fun i wr => ∃ k : Nat, k ≤ n ∧ i = .int .i64 (k : Int) ∧ (∀ j x, j < k → L[j]? = some x → x.1 ≠ id) ∧ Below w.heap.size w wr) (fun i _ => n - (intOf i).toNat)
  case atStart => exact ⟨0, Nat.zero_le _, rfl, fun j x hj => by omega, Below.refl _ _⟩
  case round =>
  generalize wr = wo at *
  obtain ⟨k, hk, rfl, hf, hB⟩ := hrel
  have hz := hB.size
  replace hf := Lib.hid hf
  by_cases hlt : k < n
  rotate_left
  · obtain rfl : k = n := by omega
    have hv : dropN L id = (false, L) := dropN_none fun j x hx => hf.out j x (by have := (List.getElem?_eq_some_iff.1 hx).1; have := hn2.out; omega) hx
    replace hv := Lib.hid hv
    have hR : RefT w Y d mo no L := ⟨_, h1, h2, h3, h4, h5⟩
    go_wp2_with fail
    go_ret
    rw [hv.out]
    obtain ⟨v9, r1, r2, r3, r4, r5⟩ := hR.nx hB
    exact ⟨rfl, ⟨v9, r1, r2, r3, fun k hk => .inl (r4 k hk), fun k hk => hk.elim (r5 k) fun q => q.2⟩, Chg.of_below hB⟩
  obtain ⟨b, off, x, y, hA, hb1, hxk, e0, e1⟩ := rw_cells (hS0.below hB (fun _ q => q)) hlt
  have ltb : b < wo.heap.size := Nat.lt_of_lt_of_le hb1 hz
  have hki : (k : Int) < n := by omega
  have hB2 := hB.alloc hz (.cells #[.int .i64 x, .int .i64 y] 243)
  have hq2 := Blk.new wo 243 #[.int .i64 x, .int .i64 y]
  obtain ⟨A1, hs1, hr1⟩ := row_take elem_rw size_rw A n c k (by omega) hnc
  obtain ⟨A2, hs2, hr2⟩ := row_drop elem_rw size_rw A n c (k + 1) (by omega) hnc
  rw [show ((k + 1 : Nat) : Int) = (k : Int) + 1 by omega] at hs2
  subst hA
  by_cases hx : x = id
  rotate_left
  · have hbx : (x == id) = false := by simpa using hx
    have hv : ∀ j r, j < k + 1 → L[j]? = some r → r.1 ≠ id := fun j r hj hr => by
      by_cases e : j = k
      · rw [e, hxk] at hr; injection hr with hr; rw [← hr]; exact hx
      · exact hf.out j r (by omega) hr
    replace hv := Lib.hid hv
    replace hx := Lib.hid hx
    clear hs1 hs2 hr1 hr2
    go_wp2_with fail
    exact ⟨⟨k + 1, by omega, by go_num, hv.out, hB2⟩, by simp [intOf]; omega⟩
  have hbx : (x == id) = true := by simpa using hx
  have hv := Lib.hid (dropN_at hxk hx hf.out)
  replace hx := Lib.hid hx
  go_upto_region 5 with (fail)
  clear e0 e1 hq2 c2
  generalize wo.alloc (.cells #[.int .i64 x, .int .i64 y] 243) = w2 at *
  have hS2 := hS0.below hB2 (fun _ q => q)
  have hSa := hr1 _ _ _ hS2
  have hSb := hr2 _ _ _ hS2
  have hz2 := hB2.size
  have hq := h1.below hB2 ltd
  have c2 : w2.cell? ⟨d, 2, none⟩ = some (.slice (some ⟨b, off, none⟩) n c) := hq.cellv 2 rfl
  have ltd2 := hq.lt
  have kw : IntKind.i64.wrap ((k : Int) + 1) = (k : Int) + 1 := IntWalk.i64_in _ (by omega)
  clear hr1 hr2 hS2 hS0
  -- region 5: 0 1M 2 3 4 5 6 7 8M 9 10 11 12 13 14 15 16M 17 18 19M
  try refine wp_region_noPanic ?_
  have hs1r : (fun w' => Below w2.heap.size w2 w') w2.drew := (Below.refl _ _).drew
  refine wp_region_E 19 (S := fun w' => Below w2.heap.size w2 w') (by kernel_rfl) hs1r (fun _ => ?_)
  (refine e_takeA 0 (by rfl) ?_ (by kernel_rfl) (fun _ _ _ h => h) hs1r ?_ ?_; rotate_left; (focus (intro wq hSw; have hrd := hSw; have hrd2 : ∀ b o, b < w2.heap.size → wq.cell? ⟨b, o, none⟩ = w2.cell? ⟨b, o, none⟩ := (fun b o h => Below.cell hSw (p := ⟨b, o, none⟩) h); go_simp; try with_reducible rfl; done)); try simp only [Act.put, List.setIfInBounds_toArray, List.set_cons_zero, List.set_cons_succ])
  (refine e_takeA 2 (by rfl) ?_ (by kernel_rfl) (fun _ _ _ h => h) hs1r ?_ ?_; rotate_left; (focus (intro wq hSw; have hrd := hSw; have hrd2 : ∀ b o, b < w2.heap.size → wq.cell? ⟨b, o, none⟩ = w2.cell? ⟨b, o, none⟩ := (fun b o h => Below.cell hSw (p := ⟨b, o, none⟩) h); go_simp; try with_reducible rfl; done)); try simp only [Act.put, List.setIfInBounds_toArray, List.set_cons_zero, List.set_cons_succ])
  (refine e_takeA 3 (by rfl) ?_ (by kernel_rfl) (fun _ _ _ h => h) hs1r ?_ ?_; rotate_left; (focus (intro wq hSw; have hrd := hSw; have hrd2 : ∀ b o, b < w2.heap.size → wq.cell? ⟨b, o, none⟩ = w2.cell? ⟨b, o, none⟩ := (fun b o h => Below.cell hSw (p := ⟨b, o, none⟩) h); go_simp; try with_reducible rfl; done)); try simp only [Act.put, List.setIfInBounds_toArray, List.set_cons_zero, List.set_cons_succ])
  (refine e_takeA 4 (by rfl) ?_ (by kernel_rfl) (fun _ _ _ h => h) hs1r ?_ ?_; rotate_left; (focus (intro wq hSw; have hrd := hSw; have hrd2 : ∀ b o, b < w2.heap.size → wq.cell? ⟨b, o, none⟩ = w2.cell? ⟨b, o, none⟩ := (fun b o h => Below.cell hSw (p := ⟨b, o, none⟩) h); go_simp; try with_reducible rfl; done)); try simp only [Act.put, List.setIfInBounds_toArray, List.set_cons_zero, List.set_cons_succ])
  (refine e_takeA 5 (by rfl) ?_ (by kernel_rfl) (fun _ _ _ h => h) hs1r ?_ ?_; rotate_left; (focus (intro wq hSw; have hrd := hSw; have hrd2 : ∀ b o, b < w2.heap.size → wq.cell? ⟨b, o, none⟩ = w2.cell? ⟨b, o, none⟩ := (fun b o h => Below.cell hSw (p := ⟨b, o, none⟩) h); go_simp; try with_reducible rfl; done)); try simp only [Act.put, List.setIfInBounds_toArray, List.set_cons_zero, List.set_cons_succ])
  (refine e_takeA 6 (by rfl) ?_ (by kernel_rfl) (fun _ _ _ h => h) hs1r ?_ ?_; rotate_left; (focus (intro wq hSw; have hrd := hSw; have hrd2 : ∀ b o, b < w2.heap.size → wq.cell? ⟨b, o, none⟩ = w2.cell? ⟨b, o, none⟩ := (fun b o h => Below.cell hSw (p := ⟨b, o, none⟩) h); go_simp; try with_reducible rfl; done)); try simp only [Act.put, List.setIfInBounds_toArray, List.set_cons_zero, List.set_cons_succ])
  (refine e_takeA 7 (by rfl) ?_ (by kernel_rfl) (fun _ _ _ h => h) hs1r ?_ ?_; rotate_left; (focus (intro wq hSw; have hrd := hSw; have hrd2 : ∀ b o, b < w2.heap.size → wq.cell? ⟨b, o, none⟩ = w2.cell? ⟨b, o, none⟩ := (fun b o h => Below.cell hSw (p := ⟨b, o, none⟩) h); go_simp; try with_reducible rfl; done)); try simp only [Act.put, List.setIfInBounds_toArray, List.set_cons_zero, List.set_cons_succ])
  (refine e_takeA 9 (by rfl) ?_ (by kernel_rfl) (fun _ _ _ h => h) hs1r ?_ ?_; rotate_left; (focus (intro wq hSw; have hrd := hSw; have hrd2 : ∀ b o, b < w2.heap.size → wq.cell? ⟨b, o, none⟩ = w2.cell? ⟨b, o, none⟩ := (fun b o h => Below.cell hSw (p := ⟨b, o, none⟩) h); go_simp; try with_reducible rfl; done)); try simp only [Act.put, List.setIfInBounds_toArray, List.set_cons_zero, List.set_cons_succ])
  (refine e_takeA 10 (by rfl) ?_ (by kernel_rfl) (fun _ _ _ h => h) hs1r ?_ ?_; rotate_left; (focus (intro wq hSw; have hrd := hSw; have hrd2 : ∀ b o, b < w2.heap.size → wq.cell? ⟨b, o, none⟩ = w2.cell? ⟨b, o, none⟩ := (fun b o h => Below.cell hSw (p := ⟨b, o, none⟩) h); go_simp; try with_reducible rfl; done)); try simp only [Act.put, List.setIfInBounds_toArray, List.set_cons_zero, List.set_cons_succ])
  (refine e_takeA 11 (by rfl) ?_ (by kernel_rfl) (fun _ _ _ h => h) hs1r ?_ ?_; rotate_left; (focus (intro wq hSw; have hrd := hSw; have hrd2 : ∀ b o, b < w2.heap.size → wq.cell? ⟨b, o, none⟩ = w2.cell? ⟨b, o, none⟩ := (fun b o h => Below.cell hSw (p := ⟨b, o, none⟩) h); go_simp; try with_reducible rfl; done)); try simp only [Act.put, List.setIfInBounds_toArray, List.set_cons_zero, List.set_cons_succ])
  (refine e_takeA 12 (by rfl) ?_ (by kernel_rfl) (fun _ _ _ h => h) hs1r ?_ ?_; rotate_left; (focus (intro wq hSw; have hrd := hSw; have hrd2 : ∀ b o, b < w2.heap.size → wq.cell? ⟨b, o, none⟩ = w2.cell? ⟨b, o, none⟩ := (fun b o h => Below.cell hSw (p := ⟨b, o, none⟩) h); go_simp; try with_reducible rfl; done)); try simp only [Act.put, List.setIfInBounds_toArray, List.set_cons_zero, List.set_cons_succ])
  (refine e_takeA 13 (by rfl) ?_ (by kernel_rfl) (fun _ _ _ h => h) hs1r ?_ ?_; rotate_left; (focus (intro wq hSw; have hrd := hSw; have hrd2 : ∀ b o, b < w2.heap.size → wq.cell? ⟨b, o, none⟩ = w2.cell? ⟨b, o, none⟩ := (fun b o h => Below.cell hSw (p := ⟨b, o, none⟩) h); go_simp; try with_reducible rfl; done)); try simp only [Act.put, List.setIfInBounds_toArray, List.set_cons_zero, List.set_cons_succ])
  (refine e_takeA 14 (by rfl) ?_ (by kernel_rfl) (fun _ _ _ h => h) hs1r ?_ ?_; rotate_left; (focus (intro wq hSw; have hrd := hSw; have hrd2 : ∀ b o, b < w2.heap.size → wq.cell? ⟨b, o, none⟩ = w2.cell? ⟨b, o, none⟩ := (fun b o h => Below.cell hSw (p := ⟨b, o, none⟩) h); go_simp; try with_reducible rfl; done)); try simp only [Act.put, List.setIfInBounds_toArray, List.set_cons_zero, List.set_cons_succ])
  (refine e_takeA 15 (by rfl) ?_ (by kernel_rfl) (fun _ _ _ h => h) hs1r ?_ ?_; rotate_left; (focus (intro wq hSw; have hrd := hSw; have hrd2 : ∀ b o, b < w2.heap.size → wq.cell? ⟨b, o, none⟩ = w2.cell? ⟨b, o, none⟩ := (fun b o h => Below.cell hSw (p := ⟨b, o, none⟩) h); go_simp; try with_reducible rfl; done)); try simp only [Act.put, List.setIfInBounds_toArray, List.set_cons_zero, List.set_cons_succ])
  refine e_callA 1 (by rfl) (by kernel_rfl) (by rfl) (fun KQ hKQ => ?_)
  go_simp
  have hb1 := (Below.refl w2.heap.size w2).drew.alloc (Nat.le_refl _) (.cells #[] 243)
  have hr0 : Rows rwK (w2.drew.alloc (.cells #[] 243)) w2.heap.size w2.heap.size 243 (.slice (some ⟨w2.heap.size, 0, none⟩) 0 0) [] := rw_lit w2.drew
  have hS3 := hSa.below hb1 fun b q => Nat.lt_of_lt_of_le q hz2
  have hd : (w2.alloc (.cells #[] 243)).drew = w2.drew.alloc (.cells #[] 243) := rfl
  try rw [hd]
  have hzz := hb1.size
  generalize w2.drew.alloc (.cells #[] 243) = w3 at *
  clear hd
  have hs2r := hb1
  refine hKQ.out _ _ hs2r ?_
  clear hKQ KQ
  try simp only [Act.put, List.setIfInBounds_toArray, List.set_cons_zero, List.set_cons_succ]
  refine e_callA 8 (by rfl) (by kernel_rfl) (by rfl) (fun KQ hKQ => ?_)
  refine wp_rows rw_ok (.tmp 22) (.tmp 28) (by rfl) hr0 (by rfl) (by rfl) hS3 (fun _ _ => trivial) (by unfold maxLen; simp; omega) (by simp; omega) hzz ?_
  intro v4 w4 hv4 hg4
  rw [List.nil_append] at hv4
  have hb4 := hb1.trans (hr0.below_app hg4 hzz)
  have hs3r := hb4
  refine hKQ.out _ _ hs3r ?_
  clear hKQ KQ
  try simp only [Act.put, List.setIfInBounds_toArray, List.set_cons_zero, List.set_cons_succ]
  have hS4 := hSb.below hb4 fun b q => Nat.lt_of_lt_of_le q hz2
  have hz4 := hb4.size
  have hl1 : (L.take k).length = k := by rw [List.length_take]; have := hn2.out; omega
  refine e_callA 16 (by rfl) (by kernel_rfl) (by rfl) (fun KQ hKQ => ?_)
  refine wp_rows rw_ok (.tmp 29) (.tmp 36) (by rfl) hv4 (by rfl) (by rfl) hS4 (fun _ _ => trivial) (by unfold maxLen; omega) (by omega) hz4 ?_
  intro v5 w5 hv5 hg5
  rw [eraseIdx_td] at hv5
  have hb5 := hb4.trans (hv4.below_app hg5 hz4)
  obtain ⟨A5, c5, e5, hc5, hcm5, hS5⟩ := hv5.seen (Nat.le_refl _)
  subst e5
  have hq5 := hq.below hb5 ltd2
  have g5 := hq5.frozen 2
  have hz5 := hb5.size
  have ltd5 : d < w5.heap.size := Nat.lt_of_lt_of_le ltd2 hz5
  have c5' : w5.cell? ⟨d, 2, none⟩ = some (.slice (some ⟨b, off, none⟩) n c) := hq5.cellv 2 rfl
  have hn5 := own_ne_blk hv5.1 hq5 (by decide)
  have hol := hv5.1.lt
  have hs4r := hb5
  refine hKQ.out _ _ hs4r ?_
  clear hKQ KQ
  try simp only [Act.put, List.setIfInBounds_toArray, List.set_cons_zero, List.set_cons_succ]
  (refine e_takeA 17 (by rfl) ?_ (by kernel_rfl) (fun _ _ _ h => h) hs4r ?_ ?_; rotate_left; (focus (intro wq hSw; have hrd := hSw; have hrd2 : ∀ b o, b < w2.heap.size → wq.cell? ⟨b, o, none⟩ = w2.cell? ⟨b, o, none⟩ := (fun b o h => Below.cell hSw (p := ⟨b, o, none⟩) h); go_simp; try with_reducible rfl; done)); try simp only [Act.put, List.setIfInBounds_toArray, List.set_cons_zero, List.set_cons_succ])
  (refine e_takeA 18 (by rfl) ?_ (by kernel_rfl) (fun _ _ _ h => h) hs4r ?_ ?_; rotate_left; (focus (intro wq hSw; have hrd := hSw; have hrd2 : ∀ b o, b < w2.heap.size → wq.cell? ⟨b, o, none⟩ = w2.cell? ⟨b, o, none⟩ := (fun b o h => Below.cell hSw (p := ⟨b, o, none⟩) h); go_simp; try with_reducible rfl; done)); try simp only [Act.put, List.setIfInBounds_toArray, List.set_cons_zero, List.set_cons_succ])
  refine e_last (by rfl) (by kernel_rfl) (by rfl) (fun KQ hKQ => ?_)
  go_simp
  obtain ⟨hq6, hg6⟩ := blk_store hq5 2 (.slice A5 (L.eraseIdx k).length c5)
  replace hq6 : Blk (w5.setCell ⟨d, 2, none⟩ (.slice A5 (L.eraseIdx k).length c5)) d 210 #[.int .i64 mo, .int .i64 no, .slice A5 (L.eraseIdx k).length c5] := hq6
  have hR6 : Rows rwK (w5.setCell ⟨d, 2, none⟩ (.slice A5 (L.eraseIdx k).length c5)) w2.heap.size w2.heap.size 243 (.slice A5 (L.eraseIdx k).length c5) (L.eraseIdx k) := ⟨hv5.1.kept hg6 (.inr hn5), fun _ _ => trivial⟩
  have hz6 := hg6.size
  generalize w5.setCell ⟨d, 2, none⟩ (.slice A5 (L.eraseIdx k).length c5) = w6 at *
  refine hKQ.out _ _ ?_
  clear hKQ KQ
  try simp only [Act.put]
  refine e_done (by kernel_rfl) ?_ _
  try refine NoPanic.normal ?_
  go_wp2_with fail
  go_ret
  rw [hv.out]
  have hCC : Chg w w6 (fun k => k = d) := ((Chg.of_below hB2).trans (Chg.of_below (X := fun _ => False) hb5) (fun _ _ q => q.elim)).trans (Chg.of_grown (X := fun k => k = d) hg6 rfl) (fun _ _ q => q)
  refine ⟨rfl, ⟨_, hq6, hR6.less (Nat.zero_le _) (Nat.zero_le _), hn5, ?_, ?_⟩, hCC⟩
  · rintro j (q | q)
    · exact .inl (h4 j (.inl q))
    · have := hol j q
      exact .inr ⟨by omega, by omega⟩
  · rintro j (q | q)
    · exact Nat.lt_of_lt_of_le (h5 j q) hCC.size
    · exact q.2
set_option maxRecDepth 100000 in
set_option maxHeartbeats 8000000 in
theorem refArm (w : World) (Y : Nat → Prop) (d : Nat) (mo no : Int) (L : List (Int × Int)) (h : RefT w Y d mo no L) (hn : L.length ≤ 100000) (id n : Int) (h0 : 0 ≤ id) (h1 : id < mo) (h2 : 1 ≤ n) :
    Calls Try.prog 143 #[.pointer (some ⟨d, 0, none⟩), .int .i64 id, .int .i64 n] w fun e w' => e = .returned (.int .i64 0) ∧ RefT w' (fun k => Y k ∨ (w.heap.size ≤ k ∧ k < w'.heap.size)) d mo no ((dropN L id).2 ++ [(id, addT no n)]) ∧ Chg w w' Y := by
  have c0 : w.cell? ⟨d, 0, none⟩ = some (.int .i64 mo) := by obtain ⟨v, q, _⟩ := h; exact q.cellv 0 rfl
  have ltd0 : d < w.heap.size := by obtain ⟨v, q, _⟩ := h; exact q.lt
  have hYd : Y d := by obtain ⟨v, _, _, _, q, _⟩ := h; exact q d (.inl rfl)
  have hYl := h.lt
  have t1 : decide (id < 0) = false := by simp; omega
  have t2 : decide (mo ≤ id) = false := by simp; omega
  have t3 : decide (n < 1) = false := by simp; omega
  have hdl := dropN_len L id
  go_enter Try.func143, Try.ntmps143
  go_upto_region 6 with (go_at_call 144; refine (refCancel w Y d mo no L h (by omega) id).mono ?_; rintro e w1 ⟨rfl, hR1, hC1⟩)
  obtain ⟨M, hMe⟩ : ∃ M, M = (dropN L id).2 := ⟨_, rfl⟩
  rw [← hMe] at hR1 hdl
  replace hMe := Lib.hid hMe
  obtain ⟨v, hq1, hrow, hvd, hY1, hYl1⟩ := hR1
  have hz1 := hC1.size
  have c2 : w1.cell? ⟨d, 2, none⟩ = some v := hq1.cellv 2 rfl
  have c1 : w1.cell? ⟨d, 1, none⟩ = some (.int .i64 no) := hq1.cellv 1 rfl
  have ltd := hq1.lt
  have hM : M.length ≤ 100000 := by omega
  clear c0 h
  -- region 6: 0 1 2 3 4 5 6 7 8 9 10 11C 12 13M 14M 15 16 17M
  try refine wp_region_noPanic ?_
  have hs5r : (fun w' => w1.grownBy w' v.ownBlock) w1.drew := grown_drew (grown_refl _ _)
  refine wp_region_E 17 (S := fun w' => w1.grownBy w' v.ownBlock) (by kernel_rfl) hs5r (fun _ => ?_)
  (refine e_takeA 0 (by rfl) ?_ (by kernel_rfl) (fun _ _ _ h => h) hs5r ?_ ?_; rotate_left; (focus (intro wq hSw; have hrd := hSw; have hrd2 : ∀ b' o, b' < w1.heap.size → v.ownBlock ≠ some b' → wq.cell? ⟨b', o, none⟩ = w1.cell? ⟨b', o, none⟩ := (fun b' o h hne => grown_cellO hSw h hne); go_simp; try with_reducible rfl; done)); try simp only [Act.put, List.setIfInBounds_toArray, List.set_cons_zero, List.set_cons_succ])
  (refine e_takeA 1 (by rfl) ?_ (by kernel_rfl) (fun _ _ _ h => h) hs5r ?_ ?_; rotate_left; (focus (intro wq hSw; have hrd := hSw; have hrd2 : ∀ b' o, b' < w1.heap.size → v.ownBlock ≠ some b' → wq.cell? ⟨b', o, none⟩ = w1.cell? ⟨b', o, none⟩ := (fun b' o h hne => grown_cellO hSw h hne); go_simp; try with_reducible rfl; done)); try simp only [Act.put, List.setIfInBounds_toArray, List.set_cons_zero, List.set_cons_succ])
  (refine e_takeA 2 (by rfl) ?_ (by kernel_rfl) (fun _ _ _ h => h) hs5r ?_ ?_; rotate_left; (focus (intro wq hSw; have hrd := hSw; have hrd2 : ∀ b' o, b' < w1.heap.size → v.ownBlock ≠ some b' → wq.cell? ⟨b', o, none⟩ = w1.cell? ⟨b', o, none⟩ := (fun b' o h hne => grown_cellO hSw h hne); go_simp; try with_reducible rfl; done)); try simp only [Act.put, List.setIfInBounds_toArray, List.set_cons_zero, List.set_cons_succ])
  (refine e_takeA 3 (by rfl) ?_ (by kernel_rfl) (fun _ _ _ h => h) hs5r ?_ ?_; rotate_left; (focus (intro wq hSw; have hrd := hSw; have hrd2 : ∀ b' o, b' < w1.heap.size → v.ownBlock ≠ some b' → wq.cell? ⟨b', o, none⟩ = w1.cell? ⟨b', o, none⟩ := (fun b' o h hne => grown_cellO hSw h hne); go_simp; try with_reducible rfl; done)); try simp only [Act.put, List.setIfInBounds_toArray, List.set_cons_zero, List.set_cons_succ])
  (refine e_takeA 4 (by rfl) ?_ (by kernel_rfl) (fun _ _ _ h => h) hs5r ?_ ?_; rotate_left; (focus (intro wq hSw; have hrd := hSw; have hrd2 : ∀ b' o, b' < w1.heap.size → v.ownBlock ≠ some b' → wq.cell? ⟨b', o, none⟩ = w1.cell? ⟨b', o, none⟩ := (fun b' o h hne => grown_cellO hSw h hne); go_simp; try with_reducible rfl; done)); try simp only [Act.put, List.setIfInBounds_toArray, List.set_cons_zero, List.set_cons_succ])
  (refine e_takeA 5 (by rfl) ?_ (by kernel_rfl) (fun _ _ _ h => h) hs5r ?_ ?_; rotate_left; (focus (intro wq hSw; have hrd := hSw; have hrd2 : ∀ b' o, b' < w1.heap.size → v.ownBlock ≠ some b' → wq.cell? ⟨b', o, none⟩ = w1.cell? ⟨b', o, none⟩ := (fun b' o h hne => grown_cellO hSw h hne); go_simp; try with_reducible rfl; done)); try simp only [Act.put, List.setIfInBounds_toArray, List.set_cons_zero, List.set_cons_succ])
  (refine e_takeA 6 (by rfl) ?_ (by kernel_rfl) (fun _ _ _ h => h) hs5r ?_ ?_; rotate_left; (focus (intro wq hSw; have hrd := hSw; have hrd2 : ∀ b' o, b' < w1.heap.size → v.ownBlock ≠ some b' → wq.cell? ⟨b', o, none⟩ = w1.cell? ⟨b', o, none⟩ := (fun b' o h hne => grown_cellO hSw h hne); go_simp; try with_reducible rfl; done)); try simp only [Act.put, List.setIfInBounds_toArray, List.set_cons_zero, List.set_cons_succ])
  (refine e_takeA 7 (by rfl) ?_ (by kernel_rfl) (fun _ _ _ h => h) hs5r ?_ ?_; rotate_left; (focus (intro wq hSw; have hrd := hSw; have hrd2 : ∀ b' o, b' < w1.heap.size → v.ownBlock ≠ some b' → wq.cell? ⟨b', o, none⟩ = w1.cell? ⟨b', o, none⟩ := (fun b' o h hne => grown_cellO hSw h hne); go_simp; try with_reducible rfl; done)); try simp only [Act.put, List.setIfInBounds_toArray, List.set_cons_zero, List.set_cons_succ])
  (refine e_takeA 8 (by rfl) ?_ (by kernel_rfl) (fun _ _ _ h => h) hs5r ?_ ?_; rotate_left; (focus (intro wq hSw; have hrd := hSw; have hrd2 : ∀ b' o, b' < w1.heap.size → v.ownBlock ≠ some b' → wq.cell? ⟨b', o, none⟩ = w1.cell? ⟨b', o, none⟩ := (fun b' o h hne => grown_cellO hSw h hne); go_simp; try with_reducible rfl; done)); try simp only [Act.put, List.setIfInBounds_toArray, List.set_cons_zero, List.set_cons_succ])
  (refine e_takeA 9 (by rfl) ?_ (by kernel_rfl) (fun _ _ _ h => h) hs5r ?_ ?_; rotate_left; (focus (intro wq hSw; have hrd := hSw; have hrd2 : ∀ b' o, b' < w1.heap.size → v.ownBlock ≠ some b' → wq.cell? ⟨b', o, none⟩ = w1.cell? ⟨b', o, none⟩ := (fun b' o h hne => grown_cellO hSw h hne); go_simp; try with_reducible rfl; done)); try simp only [Act.put, List.setIfInBounds_toArray, List.set_cons_zero, List.set_cons_succ])
  (refine e_takeA 10 (by rfl) ?_ (by kernel_rfl) (fun _ _ _ h => h) hs5r ?_ ?_; rotate_left; (focus (intro wq hSw; have hrd := hSw; have hrd2 : ∀ b' o, b' < w1.heap.size → v.ownBlock ≠ some b' → wq.cell? ⟨b', o, none⟩ = w1.cell? ⟨b', o, none⟩ := (fun b' o h hne => grown_cellO hSw h hne); go_simp; try with_reducible rfl; done)); try simp only [Act.put, List.setIfInBounds_toArray, List.set_cons_zero, List.set_cons_succ])
  refine e_callA 11 (by rfl) (by kernel_rfl) (by rfl) (fun KQ hKQ => ?_)
  go_simp
  refine (refAddT_any _ _ _).mono ?_
  rintro e w' ⟨rfl, rfl⟩
  have hg2 : w1.grownBy w1.drew v.ownBlock := grown_drew (grown_refl _ _)
  have hs6r := hg2
  refine hKQ.out _ _ hs6r ?_
  clear hKQ KQ
  try simp only [Act.put, List.setIfInBounds_toArray, List.set_cons_zero, List.set_cons_succ]
  (refine e_takeA 12 (by rfl) ?_ (by kernel_rfl) (fun _ _ _ h => h) hs6r ?_ ?_; rotate_left; (focus (intro wq hSw; have hrd := hSw; have hrd2 : ∀ b' o, b' < w1.heap.size → v.ownBlock ≠ some b' → wq.cell? ⟨b', o, none⟩ = w1.cell? ⟨b', o, none⟩ := (fun b' o h hne => grown_cellO hSw h hne); go_simp; try with_reducible rfl; done)); try simp only [Act.put, List.setIfInBounds_toArray, List.set_cons_zero, List.set_cons_succ])
  refine e_callA 13 (by rfl) (by kernel_rfl) (by rfl) (fun KQ hKQ => ?_)
  go_simp
  have hb5 : Below w1.heap.size w1 (w1.drew.alloc (.cells #[.int .i64 id, .int .i64 (addT no n)] 243)) := (Below.refl w1.heap.size w1).drew.alloc (Nat.le_refl _) (.cells #[.int .i64 id, .int .i64 (addT no n)] 243)
  have hseen : Seen rwK (w1.drew.alloc (.cells #[.int .i64 id, .int .i64 (addT no n)] 243)) (fun _ => True) (some ⟨w1.heap.size, 0, none⟩) 1 [(id, addT no n)] := seen_one (R := rwK) (S := fun _ => False) (S' := fun _ => True) w1.drew 243 (id, addT no n) #[.int .i64 id, .int .i64 (addT no n)] rfl trivial (fun _ h => h.elim) trivial (fun _ h => h.elim)
  have hrow5 := hrow.below hb5
  have hd : (w1.alloc (.cells #[.int .i64 id, .int .i64 (addT no n)] 243)).drew = w1.drew.alloc (.cells #[.int .i64 id, .int .i64 (addT no n)] 243) := rfl
  try rw [hd]
  clear hd
  have hz5 := hb5.size
  generalize w1.drew.alloc (.cells #[.int .i64 id, .int .i64 (addT no n)] 243) = w5 at *
  have hg5' := grown_of_below hb5 (Nat.le_refl _) v.ownBlock
  have hs7r := hg5'
  refine hKQ.out _ _ hs7r ?_
  clear hKQ KQ
  try simp only [Act.put, List.setIfInBounds_toArray, List.set_cons_zero, List.set_cons_succ]
  refine e_callA 14 (by rfl) (by kernel_rfl) (by rfl) (fun KQ hKQ => ?_)
  refine wp_rowsO rw_ok (.tmp 28) (.tmp 37) (by rfl) hrow5 (by rfl) (by rfl) hseen (fun _ _ => trivial) (by unfold maxLen; omega) (by omega) (Nat.zero_le _) ?_
  intro v6 w6 hR6 hg6 ho6
  obtain ⟨ln, hln⟩ : ∃ ln, ln = (M ++ [(id, addT no n)]).length := ⟨_, rfl⟩
  obtain ⟨A7, c7, e7, -⟩ := hR6.1.any
  rw [← hln] at e7
  subst e7
  replace hln := Lib.hid hln
  have hg46 := grown_trans hg5' hg6
  have hs8r := hg46
  refine hKQ.out _ _ hs8r ?_
  clear hKQ KQ
  try simp only [Act.put, List.setIfInBounds_toArray, List.set_cons_zero, List.set_cons_succ]
  (refine e_takeA 15 (by rfl) ?_ (by kernel_rfl) (fun _ _ _ h => h) hs8r ?_ ?_; rotate_left; (focus (intro wq hSw; have hrd := hSw; have hrd2 : ∀ b' o, b' < w1.heap.size → v.ownBlock ≠ some b' → wq.cell? ⟨b', o, none⟩ = w1.cell? ⟨b', o, none⟩ := (fun b' o h hne => grown_cellO hSw h hne); go_simp; try with_reducible rfl; done)); try simp only [Act.put, List.setIfInBounds_toArray, List.set_cons_zero, List.set_cons_succ])
  (refine e_takeA 16 (by rfl) ?_ (by kernel_rfl) (fun _ _ _ h => h) hs8r ?_ ?_; rotate_left; (focus (intro wq hSw; have hrd := hSw; have hrd2 : ∀ b' o, b' < w1.heap.size → v.ownBlock ≠ some b' → wq.cell? ⟨b', o, none⟩ = w1.cell? ⟨b', o, none⟩ := (fun b' o h hne => grown_cellO hSw h hne); go_simp; try with_reducible rfl; done)); try simp only [Act.put, List.setIfInBounds_toArray, List.set_cons_zero, List.set_cons_succ])
  have hq6 := hq1.grown hg46 (fun e => hvd e.symm)
  have n1 := own_ne_blk hR6.1 hq6 (by decide)
  have f2 := hq6.frozen 2
  have ltd6 := hq6.lt
  obtain ⟨hq7, hg7⟩ := blk_store hq6 2 (.slice A7 ln c7)
  replace hq7 : Blk (w6.setCell ⟨d, 2, none⟩ (.slice A7 ln c7)) d 210 #[.int .i64 mo, .int .i64 no, .slice A7 ln c7] := hq7
  have hR7 : Rows rwK (w6.setCell ⟨d, 2, none⟩ (.slice A7 ln c7)) 0 0 243 (.slice A7 ln c7) (M ++ [(id, addT no n)]) := ⟨hR6.1.kept hg7 (.inr n1), fun _ _ => trivial⟩
  have c26 : w6.cell? ⟨d, 2, none⟩ = some v := hq6.cellv 2 rfl
  have hCC : Chg w (w6.setCell ⟨d, 2, none⟩ (.slice A7 ln c7)) Y := (hC1.mono (fun i _ q => q ▸ hYd)).trans ((Chg.of_grownO (X := fun k => v.ownBlock = some k ∨ k = d) hg46 (fun k e => .inl e)).trans (Chg.of_grown (X := fun k => k = d) hg7 rfl) (fun i hi q => .inr q)) (fun i hi q => q.elim (fun q => (hY1 i (.inr q)).elim (fun q => q) fun q => by omega) fun q => q ▸ hYd)
  replace hq7 := Lib.hid hq7
  replace hR7 := Lib.hid hR7
  replace hCC := Lib.hid hCC
  clear hg7
  refine e_last (by rfl) (by kernel_rfl) (by rfl) (fun KQ hKQ => ?_)
  go_simp
  generalize w6.setCell ⟨d, 2, none⟩ (.slice A7 ln c7) = w7 at *
  refine hKQ.out _ _ ?_
  clear hKQ KQ
  try simp only [Act.put]
  refine e_done (by kernel_rfl) ?_ _
  try refine NoPanic.normal ?_
  go_wp2_with fail
  go_ret
  have hz7 := hCC.out.size
  rw [← hMe.out]
  refine ⟨rfl, ⟨_, hq7.out, hR7.out, n1, ?_, ?_⟩, hCC.out⟩
  · rintro j (q | q)
    · exact .inl (q ▸ hYd)
    · have hj7 := (hR7.out.1.lt j q).2
      by_cases hjw : j < w.heap.size
      · rcases ho6 with q2 | q2
        · exact .inl ((hY1 j (.inr (q2 ▸ q))).elim (fun q => q) fun q => by omega)
        · rw [q2] at q; injection q with q; omega
      · exact .inr ⟨by omega, hj7⟩
  · rintro j (q | q)
    · exact Nat.lt_of_lt_of_le (hYl j q) hz7
    · exact q.2
theorem refArmBad (w : World) (Y : Nat → Prop) (d : Nat) (mo no : Int) (L : List (Int × Int)) (h : RefT w Y d mo no L) (id n : Int) (h0 : id < 0 ∨ mo ≤ id) :
    Calls Try.prog 143 #[.pointer (some ⟨d, 0, none⟩), .int .i64 id, .int .i64 n] w fun e w' => e = .returned (.int .i64 9) ∧ w = w' := by
  have c0 : w.cell? ⟨d, 0, none⟩ = some (.int .i64 mo) := by obtain ⟨v, q, _⟩ := h; exact q.cellv 0 rfl
  have ltd : d < w.heap.size := by obtain ⟨v, q, _⟩ := h; exact q.lt
  go_enter Try.func143, Try.ntmps143
  by_cases hl : id < 0
  · have t1 : decide (id < 0) = true := by simpa using hl
    go_wp2_with fail
    go_ret
    exact ⟨rfl, rfl⟩
  · have t1 : decide (id < 0) = false := by simpa using hl
    have t2 : decide (mo ≤ id) = true := by simp; omega
    go_wp2_with fail
    go_ret
    exact ⟨rfl, rfl⟩
theorem refArmArg (w : World) (Y : Nat → Prop) (d : Nat) (mo no : Int) (L : List (Int × Int)) (h : RefT w Y d mo no L) (id n : Int) (h0 : 0 ≤ id) (h1 : id < mo) (h2 : n < 1) :
    Calls Try.prog 143 #[.pointer (some ⟨d, 0, none⟩), .int .i64 id, .int .i64 n] w fun e w' => e = .returned (.int .i64 2) ∧ w = w' := by
  have c0 : w.cell? ⟨d, 0, none⟩ = some (.int .i64 mo) := by obtain ⟨v, q, _⟩ := h; exact q.cellv 0 rfl
  have ltd : d < w.heap.size := by obtain ⟨v, q, _⟩ := h; exact q.lt
  have t1 : decide (id < 0) = false := by simp; omega
  have t2 : decide (mo ≤ id) = false := by simp; omega
  go_enter Try.func143, Try.ntmps143
  go_wp2_with fail
  go_ret
  exact ⟨rfl, rfl⟩
end Go.Proofs.Ytejgekoinbdhjaa
