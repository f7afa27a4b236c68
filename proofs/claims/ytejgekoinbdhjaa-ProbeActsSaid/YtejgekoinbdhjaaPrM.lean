/- probe: the document's scheduler: New, Waiting, Ids, Copy. -/
import Derived.Test.YtejgekoinbdhjaaPrK
import Derived.Test.YtejgekoinbdhjaaDrawE
namespace Go.Proofs.Ytejgekoinbdhjaa
set_option linter.unusedVariables false
open Go Go.RowKit Go.Maps

def rpK : RK Pr where
  size := 4
  cel r := [.int .i64 r.id, .int .i64 r.nx, .int .i64 r.sq, .int .i64 r.at_]
  ok _ _ _ := True
  pos := by omega
  len _ := rfl
  one _ u hu := by simp at hu; rcases hu with rfl | rfl | rfl | rfl <;> rfl
  keep _ _ := trivial
  more _ _ := trivial
theorem rp_ok : ElemOk Try.prog 226 250 rpK.size 32 (.agg #[.int .i64 0, .int .i64 0, .int .i64 0, .int .i64 0]) := ⟨Try.underlying226, by kernel_rfl, rfl, rpK.pos⟩
theorem rp_cells {w : World} {S : Nat → Prop} {A : Option Addr} {n : Nat} {L : List Pr} {k : Nat} (h : Seen rpK w S A n L) (hk : k < n) :
    ∃ b off r, A = some ⟨b, off, none⟩ ∧ S b ∧ L[k]? = some r ∧ w.cell? ⟨b, off + k * 4, none⟩ = some (.int .i64 r.id) ∧ w.cell? ⟨b, off + k * 4 + 1, none⟩ = some (.int .i64 r.nx) ∧ w.cell? ⟨b, off + k * 4 + 2, none⟩ = some (.int .i64 r.sq) ∧ w.cell? ⟨b, off + k * 4 + 3, none⟩ = some (.int .i64 r.at_) := by
  have hlt : k < L.length := by rw [h.1]; exact hk
  have hr := List.getElem?_eq_getElem hlt
  obtain ⟨b, off, e, hb, hc⟩ := h.cell hr
  exact ⟨b, off, _, e, hb, hr, hc 0 (by decide), hc 1 (by decide), hc 2 (by decide), hc 3 (by decide)⟩
theorem elem_rp : Try.prog.underlying 226 = some (.slice (Try.prog.elem 226)) := by kernel_rfl
theorem size_rp (w : World) : (sizeOf (Try.prog.elem 226)).run Try.prog w = .ok rpK.size w := by kernel_rfl
theorem rp_lit (w : World) : Rows rpK (w.alloc (.cells #[] 250)) w.heap.size w.heap.size 250 (.slice (some ⟨w.heap.size, 0, none⟩) 0 0) [] :=
  ⟨Own1.lit w #[] 0 (Nat.le_refl _) (by unfold maxLen; omega) rfl, by simp⟩
theorem own_ne_blk {w : World} {base size n g : Nat} {et T : TypeId} {v : Value} {xs : List Value} {cs : Array Value} (h : Own1 w base et size v n xs) (hb : Blk w g T cs) (hne : et ≠ T) : v.ownBlock ≠ some g := fun e => by
  obtain ⟨vs, fz, q⟩ := own_cells h e
  unfold Blk at hb
  rw [hb] at q
  injection q with q
  injection q with _ q _
  exact hne q.symm
/-- the document's scheduler: its block d, its rows of its own; all in blocks of which Y is so. -/
def RefP (w : World) (Y : Nat → Prop) (d : Nat) (ev pa no sq : Int) (L : List Pr) : Prop :=
  ∃ v, Blk w d 228 #[.int .i64 ev, .int .i64 pa, .int .i64 no, .int .i64 sq, v] ∧ Rows rpK w 0 0 250 v L ∧ v.ownBlock ≠ some d ∧ (∀ k, k = d ∨ v.ownBlock = some k → Y k) ∧ ∀ k, Y k → k < w.heap.size
section
variable {w w' : World} {X Y : Nat → Prop} {d : Nat} {ev pa no sq : Int} {L : List Pr}
theorem RefP.chg (h : RefP w Y d ev pa no sq L) (hc : Chg w w' X) (hd : ∀ k, Y k → ¬ X k) : RefP w' Y d ev pa no sq L := by
  obtain ⟨v, h1, h2, h3, h4, h5⟩ := h
  exact ⟨v, hc.blk h1 (hd _ (h4 _ (.inl rfl))), ⟨hc.own h2.1 (fun k e => hd k (h4 k (.inr e))), fun _ _ => trivial⟩, h3, h4, fun k hk => Nat.lt_of_lt_of_le (h5 k hk) hc.size⟩
theorem RefP.nx (h : RefP w Y d ev pa no sq L) (hb : Below w.heap.size w w') : RefP w' Y d ev pa no sq L := h.chg (Chg.of_below (X := fun _ => False) hb) fun _ _ q => q
theorem RefP.lt (h : RefP w Y d ev pa no sq L) : ∀ k, Y k → k < w.heap.size := by obtain ⟨v, h1, h2, h3, h4, h5⟩ := h; exact h5
theorem RefP.mine (h : RefP w Y d ev pa no sq L) : Y d := by obtain ⟨v, h1, h2, h3, h4, h5⟩ := h; exact h4 _ (.inl rfl)
end
set_option maxRecDepth 100000 in
theorem refNew24 (w : World) (ev pa : Int) (h1 : 1 ≤ ev) (h2 : ev ≤ 10000) (h3 : 1 ≤ pa) (h4 : pa ≤ ev) :
    Calls Try.prog 82 #[.int .i64 ev, .int .i64 pa] w fun e w' => ∃ d Y, e = .returned (.pointer (some ⟨d, 0, none⟩)) ∧ RefP w' Y d ev pa 0 0 [] ∧ (∀ k, Y k → w.heap.size ≤ k) ∧ Below w.heap.size w w' := by
  have d1 : decide (ev < 1) = false := by simp; omega
  have d2 : decide (10000 < ev) = false := by simp; omega
  have d3 : decide (pa < 1) = false := by simp; omega
  have d4 : decide (ev < pa) = false := by simp; omega
  have hB := (Below.refl w.heap.size w).alloc (Nat.le_refl _) (.cells #[.int .i64 ev, .int .i64 pa, .int .i64 0, .int .i64 0, .slice none 0 0] 228)
  have hq := Blk.new w 228 #[.int .i64 ev, .int .i64 pa, .int .i64 0, .int .i64 0, .slice none 0 0]
  go_enter Try.func82, Try.ntmps82
  go_wp2_with fail
  go_ret
  refine ⟨w.heap.size, fun k => k = w.heap.size, rfl, ⟨_, hq, Rows.nil _ _ _ _, by simp [Value.ownBlock], ?_, ?_⟩, ?_, hB⟩
  · rintro k (q | q)
    · exact q
    · cases q
  · rintro k rfl
    exact hq.lt
  · rintro k rfl
    exact Nat.le_refl _
theorem refNewNo24 (w : World) (ev pa : Int) (h : ev < 1 ∨ 10000 < ev ∨ pa < 1 ∨ ev < pa) :
    Calls Try.prog 82 #[.int .i64 ev, .int .i64 pa] w fun e w' => e = .returned (.pointer none) ∧ w = w' := by
  go_enter Try.func82, Try.ntmps82
  by_cases k1 : ev < 1
  · have d1 : decide (ev < 1) = true := by simpa using k1
    go_wp2_with fail
    go_ret
    exact ⟨rfl, rfl⟩
  have d1 : decide (ev < 1) = false := by simpa using k1
  by_cases k2 : 10000 < ev
  · have d2 : decide (10000 < ev) = true := by simpa using k2
    go_wp2_with fail
    go_ret
    exact ⟨rfl, rfl⟩
  have d2 : decide (10000 < ev) = false := by simpa using k2
  by_cases k3 : pa < 1
  · have d3 : decide (pa < 1) = true := by simpa using k3
    go_wp2_with fail
    go_ret
    exact ⟨rfl, rfl⟩
  have d3 : decide (pa < 1) = false := by simpa using k3
  have d4 : decide (ev < pa) = true := by simp; omega
  go_wp2_with fail
  go_ret
  exact ⟨rfl, rfl⟩
set_option maxRecDepth 100000 in
set_option maxHeartbeats 4000000 in
theorem refWaiting24 (w : World) (Y : Nat → Prop) (d : Nat) (ev pa no sq : Int) (L : List Pr) (h : RefP w Y d ev pa no sq L) (hn : L.length ≤ 100000) :
    Calls Try.prog 164 #[.pointer (some ⟨d, 0, none⟩)] w fun e w' => ∃ v, e = .returned v ∧ Rows prK w' w.heap.size w.heap.size 225 v (waitsOf L) ∧ Below w.heap.size w w' := by
  obtain ⟨v, h1, h2, h3, h4, h5⟩ := h
  obtain ⟨A, c, rfl, -, -, hS⟩ := h2.seen (Nat.le_refl _)
  have c4 : w.cell? ⟨d, 4, none⟩ = some (.slice A L.length c) := h1.cellv 4 rfl
  have ltd := h1.lt
  have hS0 := hS.more (S' := fun b => b < w.heap.size) fun b q => q.2
  obtain ⟨n, hn2⟩ : ∃ n, n = L.length := ⟨_, rfl⟩
  rw [← hn2] at c4 hS0 hn
  replace hn2 := Lib.hid hn2
  clear hS h2 h3 h4 h5
  go_enter Try.func164, Try.ntmps164
  go_wp2_with fail
  go_loopw [3, 5, 11] (fun v _ i wr => ∃ k : Nat, k ≤ n ∧ i = .int .i64 (k : Int) ∧ Rows prK wr w.heap.size w.heap.size 225 v (waitsOf (L.take k)) ∧ Below w.heap.size w wr) (fun _ _ i _ => n - (intOf i).toNat)
  case atStart => exact ⟨0, Nat.zero_le _, rfl, Rows.nil _ _ _ _, Below.refl _ _⟩
  case round =>
  obtain ⟨k, hk, rfl, hrow, hB⟩ := hrel
  have hz := hB.size
  by_cases hlt : k < n
  · obtain ⟨b, off, r, rfl, hb1, hrk, e0, e1, e2, e3⟩ := rp_cells (hS0.below hB fun _ q => q) hlt
    have lb1 : b < wr.heap.size := Nat.lt_of_lt_of_le hb1 hz
    have hki : (k : Int) < n := by omega
    have hsl : (waitsOf (L.take k)).length ≤ k := by unfold waitsOf; rw [List.length_map]; exact Nat.le_trans (List.length_filter_le _ _) (by rw [List.length_take]; omega)
    have hbx := (Below.refl wr.heap.size wr).alloc (Nat.le_refl _) (.cells #[.int .i64 r.id, .int .i64 r.nx, .int .i64 r.sq, .int .i64 r.at_] 250)
    have hqx := Blk.new wr 250 #[.int .i64 r.id, .int .i64 r.nx, .int .i64 r.sq, .int .i64 r.at_]
    have hrow3 := hrow.below hbx
    go_upto_region 5 with (fail)
    clear e0 e1 e2 e3
    generalize wr.alloc (.cells #[.int .i64 r.id, .int .i64 r.nx, .int .i64 r.sq, .int .i64 r.at_] 250) = w3 at *
    have s0 : w3.cell? ⟨wr.heap.size, 0, none⟩ = some (.int .i64 r.id) := hqx.cellv 0 rfl
    have s2 : w3.cell? ⟨wr.heap.size, 2, none⟩ = some (.int .i64 r.sq) := hqx.cellv 2 rfl
    have ltq := hqx.lt
    have hB3 := hB.trans (hbx.mono hz)
    by_cases hs : 0 < r.sq
    · have t1 : decide (0 < r.sq) = true := by simpa using hs
      have hnx := Lib.hid (show waitsOf (L.take (k + 1)) = waitsOf (L.take k) ++ [(r.id, r.sq)] by unfold waitsOf; rw [List.take_add_one, hrk]; simp [hs])
      clear hs
      have hb7 := (Below.refl w3.heap.size w3).alloc (Nat.le_refl _) (.cells #[.int .i64 r.id, .int .i64 r.sq] 225)
      have hrow7 := hrow3.below hb7
      have hB7 := hB3.trans (hb7.mono hB3.size)
      have hz7 := hB7.size
      have hseen : Seen prK (w3.alloc (.cells #[.int .i64 r.id, .int .i64 r.sq] 225)) (fun _ => True) (some ⟨w3.heap.size, 0, none⟩) 1 [(r.id, r.sq)] := seen_one (R := prK) (S := fun _ => False) (S' := fun _ => True) w3 225 ((r.id, r.sq)) #[.int .i64 r.id, .int .i64 r.sq] rfl trivial (fun _ h => h.elim) trivial (fun _ h => h.elim)
      go_wp2_with (at_builtin; refine wpList_rows pr_ok24 rfl (.tmp 18) (.tmp 24) rfl hrow7 rfl rfl hseen (fun _ _ => trivial) (by unfold maxLen; omega) (by omega) hz7 ?_; intro v8 w8 hrow8 hg8)
      have hB8 := hB7.grown hg8 hz7 (fun j e => (hrow7.1.lt j e).1)
      exact ⟨⟨k + 1, by omega, by go_num, by rw [hnx.out]; exact hrow8, hB8⟩, by simp [intOf]; omega⟩
    · have t1 : decide (0 < r.sq) = false := by simpa using hs
      have hnx := Lib.hid (show waitsOf (L.take (k + 1)) = waitsOf (L.take k) by unfold waitsOf; rw [List.take_add_one, hrk]; simp [hs])
      clear hs
      go_wp2_with fail
      exact ⟨⟨k + 1, by omega, by go_num, by rw [hnx.out]; exact hrow3, hB3⟩, by simp [intOf]; omega⟩
  · obtain rfl : k = n := by omega
    have e := Lib.hid (show L.take k = L from List.take_of_length_le (by have := hn2.out; omega))
    go_wp2_with fail
    go_ret
    rw [e.out] at hrow
    exact ⟨_, rfl, hrow, hB⟩
set_option maxRecDepth 100000 in
set_option maxHeartbeats 4000000 in
theorem refIds24 (w : World) (Y : Nat → Prop) (d : Nat) (ev pa no sq : Int) (L : List Pr) (h : RefP w Y d ev pa no sq L) (hn : L.length ≤ 100000) (hid : ∀ r ∈ L, IdIn r.id) :
    Calls Try.prog 166 #[.pointer (some ⟨d, 0, none⟩)] w fun e w' => ∃ v, e = .returned v ∧ Rows intK w' w.heap.size w.heap.size 3 v ((L).map Pr.id) ∧ Below w.heap.size w w' := by
  obtain ⟨v, h1, h2, h3, h4, h5⟩ := h
  obtain ⟨A, c, rfl, -, -, hS⟩ := h2.seen (Nat.le_refl _)
  have c4 : w.cell? ⟨d, 4, none⟩ = some (.slice A L.length c) := h1.cellv 4 rfl
  have ltd := h1.lt
  have hS0 := hS.more (S' := fun b => b < w.heap.size) fun b q => q.2
  obtain ⟨n, hn2⟩ : ∃ n, n = L.length := ⟨_, rfl⟩
  rw [← hn2] at c4 hS0 hn
  replace hn2 := Lib.hid hn2
  clear hS h2 h3 h4 h5
  go_enter Try.func166, Try.ntmps166
  go_wp2_with fail
  go_loopw [3, 5, 11] (fun v _ i wr => ∃ k : Nat, k ≤ n ∧ i = .int .i64 (k : Int) ∧ Rows intK wr w.heap.size w.heap.size 3 v (((L.take k)).map Pr.id) ∧ Below w.heap.size w wr) (fun _ _ i _ => n - (intOf i).toNat)
  case atStart => exact ⟨0, Nat.zero_le _, rfl, Rows.nil _ _ _ _, Below.refl _ _⟩
  case round =>
  obtain ⟨k, hk, rfl, hrow, hB⟩ := hrel
  have hz := hB.size
  by_cases hlt : k < n
  · obtain ⟨b, off, r, rfl, hb1, hrk, e0, e1, e2, e3⟩ := rp_cells (hS0.below hB fun _ q => q) hlt
    have lb1 : b < wr.heap.size := Nat.lt_of_lt_of_le hb1 hz
    have hki : (k : Int) < n := by omega
    have hsl : ((L.take k).map Pr.id).length ≤ k := by rw [List.length_map, List.length_take]; omega
    have hbx := (Below.refl wr.heap.size wr).alloc (Nat.le_refl _) (.cells #[.int .i64 r.id, .int .i64 r.nx, .int .i64 r.sq, .int .i64 r.at_] 250)
    have hqx := Blk.new wr 250 #[.int .i64 r.id, .int .i64 r.nx, .int .i64 r.sq, .int .i64 r.at_]
    have hrow3 := hrow.below hbx
    go_upto_region 5 with (fail)
    clear e0 e1 e2 e3
    generalize wr.alloc (.cells #[.int .i64 r.id, .int .i64 r.nx, .int .i64 r.sq, .int .i64 r.at_] 250) = w3 at *
    have s0 : w3.cell? ⟨wr.heap.size, 0, none⟩ = some (.int .i64 r.id) := hqx.cellv 0 rfl
    have s2 : w3.cell? ⟨wr.heap.size, 2, none⟩ = some (.int .i64 r.sq) := hqx.cellv 2 rfl
    have ltq := hqx.lt
    have hB3 := hB.trans (hbx.mono hz)
    have hnx := Lib.hid (show (L.take (k + 1)).map Pr.id = (L.take k).map Pr.id ++ [r.id] by rw [List.take_add_one, hrk]; simp)
    have hb7 := (Below.refl w3.heap.size w3).alloc (Nat.le_refl _) (.cells #[.int .i64 r.id] 3)
    have hrow7 := hrow3.below hb7
    have hB7 := hB3.trans (hb7.mono hB3.size)
    have hz7 := hB7.size
    have hseen : Seen intK (w3.alloc (.cells #[.int .i64 r.id] 3)) (fun _ => True) (some ⟨w3.heap.size, 0, none⟩) 1 [r.id] := seen_one (R := intK) (S := fun _ => False) (S' := fun _ => True) w3 3 (r.id) #[.int .i64 r.id] rfl (WalkArith.wf_i64 (hid r (List.mem_of_getElem? hrk))) (fun _ h => h.elim) trivial (fun _ h => h.elim)
    go_wp2_with (at_builtin; refine wpList_rows int_ok rfl (.tmp 15) (.tmp 18) rfl hrow7 rfl rfl hseen (fun a ha => by rw [List.mem_singleton] at ha; subst ha; exact WalkArith.wf_i64 (hid r (List.mem_of_getElem? hrk))) (by unfold maxLen; omega) (by omega) hz7 ?_; intro v8 w8 hrow8 hg8)
    have hB8 := hB7.grown hg8 hz7 (fun j e => (hrow7.1.lt j e).1)
    exact ⟨⟨k + 1, by omega, by go_num, by rw [hnx.out]; exact hrow8, hB8⟩, by simp [intOf]; omega⟩
  · obtain rfl : k = n := by omega
    have e := Lib.hid (show L.take k = L from List.take_of_length_le (by have := hn2.out; omega))
    go_wp2_with fail
    go_ret
    rw [e.out] at hrow
    exact ⟨_, rfl, hrow, hB⟩
end Go.Proofs.Ytejgekoinbdhjaa
