/- probe: the document's scheduler: Result; stores into one field of a row. -/
import Derived.Test.YtejgekoinbdhjaaPrN
namespace Go.Proofs.Ytejgekoinbdhjaa
set_option linter.unusedVariables false
open Go Go.RowKit Go.Maps

theorem flat_field {α : Type} {R : RK α} {L : List α} {k i : Nat} {a e : α} {u : Value} (hk : L[k]? = some a) (hi : i < R.size) (he : (R.cel a).set i u = R.cel e) : (L.flatMap R.cel).set (k * R.size + i) u = (L.set k e).flatMap R.cel := by
  obtain ⟨hl, rfl⟩ := List.getElem?_eq_some_iff.1 hk
  have e0 : L = L.take k ++ L[k] :: L.drop (k + 1) := by rw [← List.drop_eq_getElem_cons hl, List.take_append_drop]
  have hlen : ((L.take k).flatMap R.cel).length = k * R.size := by rw [flat_len, List.length_take, Nat.min_eq_left (by omega)]
  rw [show L.set k e = L.take k ++ e :: L.drop (k + 1) by rw [List.set_eq_take_append_cons_drop, if_pos hl], List.flatMap_append, List.flatMap_cons]
  generalize hx : L[k] = x at *
  conv => lhs; rw [e0]
  rw [List.flatMap_append, List.flatMap_cons, List.set_append_right (h := by omega), hlen, show k * R.size + i - k * R.size = i by omega, List.set_append_left (h := by rw [R.len]; exact hi), he]
theorem rows_field {α : Type} {R : RK α} {w : World} {lo base q n cap k i : Nat} {et : TypeId} {L : List α} {a e : α} {u : Value} (h : Rows R w lo base et (.slice (some ⟨q, 0, none⟩) n cap) L) (hok : ∀ w S e, R.ok w S e) (hn : n = L.length) (hk : L[k]? = some a) (hi : i < R.size) (he : (R.cel a).set i u = R.cel e) :
    Rows R (w.setCell ⟨q, k * R.size + i, none⟩ u) lo base et (.slice (some ⟨q, 0, none⟩) n cap) (L.set k e) ∧ w.grownBy (w.setCell ⟨q, k * R.size + i, none⟩ u) (some q) := by
  subst hn
  refine ⟨⟨?_, fun _ _ => hok _ _ _⟩, grown_setCell (grown_refl w _) (.inl rfl) u⟩
  have := h.1.store (k * R.size + i) u
  rw [flat_field hk hi he] at this
  rw [List.length_set]
  exact this
theorem clr_at {L : List Pr} {k : Nat} {r : Pr} (hd : Dist L) (hr : L[k]? = some r) : clrP L r.id = L.set k { r with sq := 0 } := by
  obtain ⟨hl, rfl⟩ := List.getElem?_eq_some_iff.1 hr
  have e : L = L.take k ++ L[k] :: L.drop (k + 1) := by rw [← List.drop_eq_getElem_cons hl, List.take_append_drop]
  rw [List.set_eq_take_append_cons_drop, if_pos hl]
  generalize hx : L[k] = x at *
  conv => lhs; rw [e]
  rw [e] at hd
  exact clr_mid hd
set_option maxRecDepth 100000 in
set_option maxHeartbeats 8000000 in
theorem refRes24 (w : World) (Y : Nat → Prop) (d : Nat) (ev pa no sq : Int) (L : List Pr) (h : RefP w Y d ev pa no sq L) (hn : L.length ≤ 100000) (hdist : Dist L) (id s : Int) :
    Calls Try.prog 165 #[.pointer (some ⟨d, 0, none⟩), .agg #[.int .i64 id, .int .i64 s]] w fun e w' => e = .returned (.int .i64 (resC L id s).1) ∧ ∃ Y', RefP w' Y' d ev pa no sq (resC L id s).2 ∧ (∀ k, Y' k → Y k ∨ w.heap.size ≤ k) ∧ Chg w w' Y := by
  obtain ⟨v, h1, h2, h3, h4, h5⟩ := h
  obtain ⟨A, c, rfl, hnc, hcm, hS⟩ := h2.seen (Nat.le_refl _)
  have c0 : w.cell? ⟨d, 0, none⟩ = some (.int .i64 ev) := h1.cellv 0 rfl
  have c1 : w.cell? ⟨d, 1, none⟩ = some (.int .i64 pa) := h1.cellv 1 rfl
  have c2 : w.cell? ⟨d, 2, none⟩ = some (.int .i64 no) := h1.cellv 2 rfl
  have c3 : w.cell? ⟨d, 3, none⟩ = some (.int .i64 sq) := h1.cellv 3 rfl
  have c4 : w.cell? ⟨d, 4, none⟩ = some (.slice A L.length c) := h1.cellv 4 rfl
  have ltd := h1.lt
  have hS0 := hS.more (S' := fun b => b < w.heap.size) fun b q => q.2
  obtain ⟨n, hn2⟩ : ∃ n, n = L.length := ⟨_, rfl⟩
  rw [← hn2] at c4 hS0 hn hnc h1 h2 h3 h4
  replace hn2 := Lib.hid hn2
  clear hS
  have hbp := (Below.refl w.heap.size w).alloc (Nat.le_refl _) (.cells #[.int .i64 id, .int .i64 s] 225)
  have hqp := Blk.new w 225 #[.int .i64 id, .int .i64 s]
  have hR : RefP w Y d ev pa no sq L := ⟨_, h1, h2, h3, h4, h5⟩
  go_enter Try.func165, Try.ntmps165
  go_upto_region 1 with (fail)
  clear c0 c1 c2 c3
  have c4p : (w.alloc (.cells #[.int .i64 id, .int .i64 s] 225)).cell? ⟨d, 4, none⟩ = some (.slice A n c) := (hbp.cell (p := ⟨d, 4, none⟩) ltd).trans c4
  clear c4
  generalize w.alloc (.cells #[.int .i64 id, .int .i64 s] 225) = wp at *
  have hzp := hbp.size
  have ltdp : d < wp.heap.size := Nat.lt_of_lt_of_le ltd hzp
  go_wp2_with fail
  go_loopw [12] (fun i wr => ∃ k : Nat, k ≤ n ∧ i = .int .i64 (k : Int) ∧ (∀ j x, j < k → L[j]? = some x → ¬ (x.id = id ∧ x.sq = s ∧ 0 < x.sq)) ∧ Below w.heap.size w wr ∧ Blk wr w.heap.size 225 #[.int .i64 id, .int .i64 s]) (fun i _ => n - (intOf i).toNat)
  case atStart => exact ⟨0, Nat.zero_le _, rfl, fun j x hj => by omega, hbp, hqp⟩
  case round =>
  generalize wr = wo at *
  obtain ⟨k, hk, rfl, hf, hB, hqo⟩ := hrel
  have hz := hB.size
  replace hf := Lib.hid hf
  have q0 : wo.cell? ⟨w.heap.size, 0, none⟩ = some (.int .i64 id) := hqo.cellv 0 rfl
  have q1 : wo.cell? ⟨w.heap.size, 1, none⟩ = some (.int .i64 s) := hqo.cellv 1 rfl
  have lq := hqo.lt
  by_cases hlt : k < n
  rotate_left
  · have e1 := Lib.hid (show resC L id s = (7, L) by
      unfold resC
      cases hfp : findP L id with
      | none => rfl
      | some r =>
        obtain ⟨hr, hrid⟩ := findP_get hfp
        obtain ⟨j, hj⟩ := List.getElem?_of_mem hr
        have hx := hf.out j r (by have := (List.getElem?_eq_some_iff.1 hj).1; have := hn2.out; omega) hj
        simp only
        rw [if_neg fun q => hx ⟨hrid, q.1, q.2⟩])
    have hki : decide ((k : Int) < (n : Int)) = false := by simp; omega
    go_wp2_with fail
    go_ret
    rw [e1.out]
    exact ⟨rfl, Y, hR.nx hB, fun k q => .inl q, Chg.of_below hB⟩
  obtain ⟨b, off, r, hA, hb1, hrk, e0, e1, e2, e3⟩ := rp_cells (hS0.below hB (fun _ q => q)) hlt
  have ltb : b < wo.heap.size := Nat.lt_of_lt_of_le hb1 hz
  have hki : (k : Int) < n := by omega
  have hB2 := hB.alloc hz (.cells #[.int .i64 r.id, .int .i64 r.nx, .int .i64 r.sq, .int .i64 r.at_] 250)
  have hqr := Blk.new wo 250 #[.int .i64 r.id, .int .i64 r.nx, .int .i64 r.sq, .int .i64 r.at_]
  have hqo2 := hqo.alloc (.cells #[.int .i64 r.id, .int .i64 r.nx, .int .i64 r.sq, .int .i64 r.at_] 250)
  subst hA
  go_upto_region 4 with (fail)
  clear e0 e1 e2 e3 q0 q1 lq ltb
  generalize wo.alloc (.cells #[.int .i64 r.id, .int .i64 r.nx, .int .i64 r.sq, .int .i64 r.at_] 250) = w2 at *
  have q0 : w2.cell? ⟨w.heap.size, 0, none⟩ = some (.int .i64 id) := hqo2.cellv 0 rfl
  have q1 : w2.cell? ⟨w.heap.size, 1, none⟩ = some (.int .i64 s) := hqo2.cellv 1 rfl
  have s0 : w2.cell? ⟨wo.heap.size, 0, none⟩ = some (.int .i64 r.id) := hqr.cellv 0 rfl
  have s2 : w2.cell? ⟨wo.heap.size, 2, none⟩ = some (.int .i64 r.sq) := hqr.cellv 2 rfl
  have lq := hqo2.lt
  have ls := hqr.lt
  have skip : ∀ (hx : ¬ (r.id = id ∧ r.sq = s ∧ 0 < r.sq)), ∀ j x, j < k + 1 → L[j]? = some x → ¬ (x.id = id ∧ x.sq = s ∧ 0 < x.sq) := fun hx j x hj hr => by
    by_cases e : j = k
    · rw [e, hrk] at hr; injection hr with hr; rw [← hr]; exact hx
    · exact hf.out j x (by omega) hr
  by_cases t0 : r.id = id
  rotate_left
  · have b0 : (r.id == id) = false := by simpa using t0
    have hv := Lib.hid (skip fun q => t0 q.1)
    replace t0 := Lib.hid t0
    replace hrk := Lib.hid hrk
    clear skip
    go_wp2_with fail
    exact ⟨⟨k + 1, by omega, by go_num, hv.out, hB2, hqo2⟩, by simp [intOf]; omega⟩
  have b0 : (r.id == id) = true := by simpa using t0
  by_cases t1 : r.sq = s
  rotate_left
  · have b1 : (r.sq == s) = false := by simpa using t1
    have hv := Lib.hid (skip fun q => t1 q.2.1)
    replace t0 := Lib.hid t0
    replace t1 := Lib.hid t1
    replace hrk := Lib.hid hrk
    clear skip
    go_wp2_with fail
    exact ⟨⟨k + 1, by omega, by go_num, hv.out, hB2, hqo2⟩, by simp [intOf]; omega⟩
  have b1 : (r.sq == s) = true := by simpa using t1
  by_cases t2 : 0 < r.sq
  rotate_left
  · have b2 : decide (0 < r.sq) = false := by simpa using t2
    have hv := Lib.hid (skip fun q => t2 q.2.2)
    replace t0 := Lib.hid t0
    replace t1 := Lib.hid t1
    replace t2 := Lib.hid t2
    replace hrk := Lib.hid hrk
    clear skip
    go_wp2_with fail
    exact ⟨⟨k + 1, by omega, by go_num, hv.out, hB2, hqo2⟩, by simp [intOf]; omega⟩
  have b2 : decide (0 < r.sq) = true := by simpa using t2
  have hv := Lib.hid (show resC L id s = (0, L.set k { r with sq := 0 }) by
    unfold resC
    rw [← t0, findP_some hdist (List.mem_of_getElem? hrk)]
    simp only
    rw [if_pos ⟨t1, t2⟩, clr_at hdist hrk])
  replace t0 := Lib.hid t0
  replace t1 := Lib.hid t1
  replace t2 := Lib.hid t2
  replace hrk := Lib.hid hrk
  clear skip
  go_upto_region 5 with (fail)
  have hq := h1.below hB2 ltd
  have c4 : w2.cell? ⟨d, 4, none⟩ = some (.slice (some ⟨b, off, none⟩) n c) := hq.cellv 4 rfl
  have ltd2 := hq.lt
  have hS2 := hS0.below hB2 (fun _ q => q)
  have hz2 := hB2.size
  have hb3 := (Below.refl w2.heap.size w2).alloc (Nat.le_refl _) (.cells #[] 250)
  have hr0 := rp_lit w2
  have hS3 := hS2.below hb3 fun b q => Nat.lt_of_lt_of_le q hz2
  have hz3 := hb3.size
  go_upto_region 6 with (at_builtin; refine wpList_rows rp_ok rfl (.tmp 35) (.tmp 39) rfl hr0 rfl rfl hS3 (fun _ _ => trivial) (by unfold maxLen; simp; omega) (by simp; omega) hz3 ?_; intro v4 w4 hv4 hg4; rw [List.nil_append] at hv4; have hb4 := hb3.trans (hr0.below_app hg4 hz3); obtain ⟨q4, k4, e4, hlo4, hlt4, -, -⟩ := hv4.1.form (by have := hn2.out; omega); rw [← hn2.out] at e4; subst e4; have hq4 := hq.below hb4 ltd2; have l4 := hq4.lt; have cc4 := hq4.cellv 4 rfl; have f4 := hq4.frozen 4)
  obtain ⟨hq5, hg5⟩ := blk_store hq4 4 (.slice (some ⟨q4, 0, none⟩) n k4)
  replace hq5 : Blk (w4.setCell ⟨d, 4, none⟩ (.slice (some ⟨q4, 0, none⟩) n k4)) d 228 #[.int .i64 ev, .int .i64 pa, .int .i64 no, .int .i64 sq, .slice (some ⟨q4, 0, none⟩) n k4] := hq5
  have hdq : d ≠ q4 := by omega
  have hv5 : Rows rpK (w4.setCell ⟨d, 4, none⟩ (.slice (some ⟨q4, 0, none⟩) n k4)) w2.heap.size w2.heap.size 250 (.slice (some ⟨q4, 0, none⟩) n k4) L := ⟨hv4.1.kept hg5 (.inr (fun e => hdq (Option.some.inj e).symm)), fun _ _ => trivial⟩
  have hC5 : Chg w2 (w4.setCell ⟨d, 4, none⟩ (.slice (some ⟨q4, 0, none⟩) n k4)) (fun k => k = d) := (Chg.of_below (X := fun k => k = d) hb4).trans (Chg.of_grown (X := fun k => k = d) hg5 rfl) fun _ _ q => q
  clear hg5 hq4 l4 cc4 f4 hb4 hv4 hg4 hr0 hS3 hb3 hz3 c4 hS2 hq q0 q1 s0 s2 lq ls hqo2 hqr hqo hB
  generalize w4.setCell ⟨d, 4, none⟩ (.slice (some ⟨q4, 0, none⟩) n k4) = w5 at *
  have c4 : w5.cell? ⟨d, 4, none⟩ = some (.slice (some ⟨q4, 0, none⟩) n k4) := hq5.cellv 4 rfl
  have lt5 := hq5.lt
  have hl4 := hv5.1.lt q4 rfl
  have hv5n := hv5.1
  rw [← hn2.out] at hv5n
  have fr := hv5n.free (k * 4 + 2)
  have ce := hv5n.cell (k * 4 + 2) (by show k * 4 + 2 < n * 4; omega)
  have ce2 : (L.flatMap rpK.cel)[k * 4 + 2]? = some (.int .i64 r.sq) := (flat_get rpK L k 2 r hrk.out (by decide)).trans rfl
  rw [ce2] at ce
  obtain ⟨hv6, hg6⟩ := rows_field (e := { r with sq := 0 }) (i := 2) (u := .int .i64 0) hv5 (fun _ _ _ => trivial) hn2.out hrk.out (by decide) rfl
  replace hv6 : Rows rpK (w5.setCell ⟨q4, k * 4 + 2, none⟩ (.int .i64 0)) w2.heap.size w2.heap.size 250 (.slice (some ⟨q4, 0, none⟩) n k4) (L.set k { r with sq := 0 }) := hv6
  replace hg6 : w5.grownBy (w5.setCell ⟨q4, k * 4 + 2, none⟩ (.int .i64 0)) (some q4) := hg6
  replace ce2 := Lib.hid ce2
  replace hg6 := Lib.hid hg6
  replace hv6 := Lib.hid hv6
  go_wp2_with fail
  go_ret
  have hC6 : Chg w5 (w5.setCell ⟨q4, k * 4 + 2, none⟩ (.int .i64 0)) (fun k => k = q4) := Chg.of_grown hg6.out rfl
  have hq6 := hC6.blk hq5 hdq
  have hCC : Chg w (w5.setCell ⟨q4, k * 4 + 2, none⟩ (.int .i64 0)) (fun k => k = d) := ((Chg.of_below hB2).trans hC5 (fun _ _ q => q)).trans hC6 (fun i hi q => by omega)
  rw [hv.out]
  refine ⟨rfl, fun j => Y j ∨ (w.heap.size ≤ j ∧ j < (w5.setCell ⟨q4, k * 4 + 2, none⟩ (.int .i64 0)).heap.size), ⟨_, hq6, hv6.out.less (Nat.zero_le _) (Nat.zero_le _), fun e => hdq (Option.some.inj e).symm, ?_, ?_⟩, fun k q => q.imp (fun q => q) fun q => q.1, hCC.mono fun i _ q => by rw [q]; exact h4 d (.inl rfl)⟩
  · rintro j (q | q)
    · exact .inl (h4 j (.inl q))
    · have e2 : q4 = j := Option.some.inj q
      have := hC6.size
      exact .inr ⟨by omega, by omega⟩
  · rintro j (q | q)
    · exact Nat.lt_of_lt_of_le (h5 j q) hCC.size
    · exact q.2
end Go.Proofs.Ytejgekoinbdhjaa
