/- open: OpenForms, the walk. -/
import Derived.Test.YtlpplclhjkbjbaaOpG
import Derived.Test.YtlpplclhjkbjbaaLate
namespace Go.Proofs.Ytlpplclhjkbjbaa
set_option linter.unusedVariables false
open Go.RowKit

section
variable {k : Nat}
theorem Lat.seen {w w' : World} {A : Option Addr} {n : Nat} {cs : List CapV} (h : Seen capK w (fun b => b < w.heap.size) A n cs) (hl : Lat w w') : Seen capK w' (fun b => b < w'.heap.size) A n cs :=
  (Seen.below h hl fun _ h => h).more fun b hb => Nat.lt_of_lt_of_le hb (Below.size hl)
theorem Rows.seenN {w : World} {lo base : Nat} {et : TypeId} {v : Value} {cs : List CapV} {n : Nat} (h : Rows capK w lo base et v cs) (hn : cs.length = n) (hlb : lo ≤ base) : ∃ A c, v = .slice A n c ∧ Seen capK w (fun b => b < w.heap.size) A n cs := by
  obtain ⟨A, c, e, _, _, h2⟩ := h.seen hlb
  rw [hn] at e h2
  exact ⟨A, c, e, h2.more fun b hb => hb.2⟩
end
section
variable {H : Type} {enc : TypeId × Value → H} {P : Program} {W : World} {base : Nat} {spare : Nat → Bool} {held : Bool}
open Go.ChangeShapes Go.WideShapes Go.ChangeAt
/-- capabilities in a law's argument. -/
theorem field_caps {t e e8 : TypeId} {fs : Array Field} {u : Value} {n : Nat} {y : DataW H × List MemPlace} {f0 f1 : Field} (ht : P.underlying t = some (.slice e)) (hs : P.underlying e = some (.struct fs)) (hone : Go.Deep.oneCellFields P fs = true) (hC : P.cellsOf e = fs.size) (hz : fs.size = 2)
    (g0 : fs[0]? = some f0) (g1 : fs[1]? = some f1) (u0 : P.underlying f0.type = some (.int .i64)) (u1 : P.underlying f1.type = some (.slice e8)) (u8 : P.underlying e8 = some (.int .u8)) (c8 : P.cellsOf e8 = 1)
    (h : DataW.trod enc P W base spare held n t [u] = some y) :
    ∃ A len cap cs, u = .slice A len cap ∧ len ≤ cap ∧ cap ≤ maxLen ∧ Seen capK W (fun b => b < W.heap.size) A len cs := by
  obtain ⟨A, len, cap, vs, rfl, h1, h2, h3, h4⟩ := field_rows ht hs hone hC (by omega) h
  rw [hz] at h3
  obtain ⟨rs, hrs⟩ := seen_of_flat (R := capK) h3 fun i hi => by
    obtain ⟨n0, y0, t0⟩ := h4 i hi 0 f0 g0
    obtain ⟨n1, y1, t1⟩ := h4 i hi 1 f1 g1
    obtain ⟨z0, e0, _⟩ := field_int u0 t0
    obtain ⟨A2, m, c, l, e1, q1, q2, q3⟩ := field_byt u1 u8 c8 t1
    rw [hz] at e0 e1
    refine ⟨⟨z0, A2, m, c, l⟩, fun j hj => ?_, q1, q2, q3.bytA⟩
    show [Value.int .i64 z0, .slice A2 m c][j]? = some (vs (i * 2 + j))
    match j, hj with
    | 0, _ => rw [e0]; rfl
    | 1, _ => rw [e1]; rfl
  exact ⟨A, len, cap, rs, rfl, h1, h2, hrs⟩
end
set_option maxRecDepth 100000 in
set_option maxHeartbeats 16000000 in
theorem forms_walk (a h id : Int) (A : Option Addr) (n c : Nat) (cs : List CapV) (a' h' id' : Int) (A' : Option Addr) (n' c' : Nat) (ds : List CapV) (z : Int) (w : World) (_ : (Lit.int .i64 a).wf = true) (_ : (Lit.int .i64 h).wf = true) (hid : (Lit.int .u32 id).wf = true) (_ : n ≤ c) (_ : c ≤ maxLen)
    (hS : Seen capK w (fun b => b < w.heap.size) A n cs)
    (_ : (Lit.int .i64 a').wf = true) (_ : (Lit.int .i64 h').wf = true) (_ : (Lit.int .u32 id').wf = true) (_ : n' ≤ c') (_ : c' ≤ maxLen) (hS' : Seen capK w (fun b => b < w.heap.size) A' n' ds) (_ : (Lit.int .i64 z).wf = true) :
    Calls Try.prog 7 #[.agg #[.int .i64 a, .int .i64 h, .int .u32 id, .slice A n c], .agg #[.int .i64 a', .int .i64 h', .int .u32 id', .slice A' n' c'], .int .i64 z] w fun e w' => e = .returned (.bool true) ∧ Below w.heap.size w w' := by
  have i0 : 0 ≤ id := (bounds_u32 hid).1
  have i1 : id ≤ 4294967295 := by have := (bounds_u32 hid).2; omega
  have hl := Lib.hid hS.1
  have hl' := Lib.hid hS'.1
  have hB := ((Below.refl w.heap.size w).alloc (Nat.le_refl _) (.cells #[.int .i64 a, .int .i64 h, .int .u32 id, .slice A n c] 57)).alloc (by simp) (.cells #[.int .i64 a', .int .i64 h', .int .u32 id', .slice A' n' c'] 57)
  have hq := (Blk.new w 57 #[.int .i64 a, .int .i64 h, .int .u32 id, .slice A n c]).alloc (.cells #[.int .i64 a', .int .i64 h', .int .u32 id', .slice A' n' c'] 57)
  have hq' : Blk ((w.alloc (.cells #[.int .i64 a, .int .i64 h, .int .u32 id, .slice A n c] 57)).alloc (.cells #[.int .i64 a', .int .i64 h', .int .u32 id', .slice A' n' c'] 57)) (w.heap.size + 1) 57 #[.int .i64 a', .int .i64 h', .int .u32 id', .slice A' n' c'] := by
    have := Blk.new (w.alloc (.cells #[.int .i64 a, .int .i64 h, .int .u32 id, .slice A n c] 57)) 57 #[.int .i64 a', .int .i64 h', .int .u32 id', .slice A' n' c']
    simpa using this
  replace hS := Lat.seen hS (hB : Lat w _)
  replace hS' := Lat.seen hS' (hB : Lat w _)
  go_enter Try.func7, Try.ntmps7
  go_wp2_with fail
  refine (light8_any _ a h id A n c cs hS).mono ?_
  rintro e w1 ⟨x, rfl, hx, hb⟩
  replace hq := hq.below hb hq.lt
  replace hq' := hq'.below hb hq'.lt
  replace hB := hB.trans (hb.mono hB.size)
  replace hS := Lat.seen hS hb
  replace hS' := Lat.seen hS' hb
  clear hb
  have lt0 := hq.lt
  have lt1 := hq'.lt
  have p0 : w1.cell? ⟨w.heap.size + 1, 0, none⟩ = some (.int .i64 a') := hq'.cellv 0 rfl
  have p1 : w1.cell? ⟨w.heap.size + 1, 1, none⟩ = some (.int .i64 h') := hq'.cellv 1 rfl
  have p2 : w1.cell? ⟨w.heap.size + 1, 2, none⟩ = some (.int .u32 id') := hq'.cellv 2 rfl
  have p3 : w1.cell? ⟨w.heap.size + 1, 3, none⟩ = some (.slice A' n' c') := hq'.cellv 3 rfl
  cases x
  · go_wp2_with fail
    refine (lives8_any _).mono ?_
    rintro e w2 ⟨rfl, hb⟩
    go_wp2_with fail
    go_ret
    exact ⟨rfl, hB.trans (hb.mono hB.size)⟩
  have hn := hx rfl
  clear hx
  go_wp2_with fail
  refine (light8_any _ a' h' id' A' n' c' ds hS').mono ?_
  rintro e w2 ⟨x, rfl, hx, hb⟩
  replace hq := hq.below hb hq.lt
  replace hq' := hq'.below hb hq'.lt
  replace hB := hB.trans (hb.mono hB.size)
  replace hS := Lat.seen hS hb
  replace hS' := Lat.seen hS' hb
  clear hb lt0 lt1 p0 p1 p2 p3
  cases x
  · go_wp2_with fail
    refine (lives8_any _).mono ?_
    rintro e w2 ⟨rfl, hb⟩
    go_wp2_with fail
    go_ret
    exact ⟨rfl, hB.trans (hb.mono hB.size)⟩
  have hn' := hx rfl
  clear hx
  have lt0 := hq.lt
  have q3 : w2.cell? ⟨w.heap.size, 3, none⟩ = some (.slice A n c) := hq.cellv 3 rfl
  go_wp2_with fail
  go_loopw [7, 9, 22] (fun v _ i wr => ∃ k : Nat, k ≤ n ∧ i = .int .i64 (k : Int) ∧ v = .bool (hasC z (cs.take k)) ∧ Below w2.heap.size w2 wr) (fun _ _ i _ => n - (intOf i).toNat)
  case atStart => exact ⟨0, Nat.zero_le _, rfl, rfl, Below.refl _ _⟩
  case round =>
  clear q3 lt0
  obtain ⟨k, hk, rfl, rfl, hb⟩ := hrel
  by_cases hlt : k < n
  · have hS2 := Seen.below hS hb fun _ hb => hb
    obtain ⟨b, off, r, rfl, hb3, hr, hrok, c0, c1⟩ := cap_cells hS2 hlt
    have hki : (k : Int) < n := by omega
    have e := Lib.hid (hasC_take z hr)
    have hbx := (Below.refl wr.heap.size wr).alloc (Nat.le_refl _) (.cells #[.int .i64 r.t, .slice r.A r.n r.c] 60)
    have hbb := hb.trans (hbx.mono hb.size)
    cases hh : hasC z (cs.take k)
    · go_wp2_with fail
      exact ⟨⟨k + 1, by omega, by go_num, by rw [e.out, hh]; rfl, hbb⟩, by simp [intOf]; omega⟩
    · go_wp2_with fail
      exact ⟨⟨k + 1, by omega, by go_num, by rw [e.out, hh]; rfl, hbb⟩, by simp [intOf]; omega⟩
  obtain rfl : k = n := by omega
  have htk : cs.take k = cs := List.take_of_length_le (by rw [hl.out]; omega)
  rw [htk]
  replace htk := Lib.hid htk
  replace hq := hq.below hb hq.lt
  replace hq' := hq'.below hb hq'.lt
  replace hB := hB.trans (hb.mono hB.size)
  replace hS := Lat.seen hS hb
  replace hS' := Lat.seen hS' hb
  clear hb
  have lt0 := hq.lt
  have lt1 := hq'.lt
  have q1 : wr.cell? ⟨w.heap.size, 1, none⟩ = some (.int .i64 h) := hq.cellv 1 rfl
  have p1 : wr.cell? ⟨w.heap.size + 1, 1, none⟩ = some (.int .i64 h') := hq'.cellv 1 rfl
  go_wp2_with fail
  -- region 9: 0 1C 2 3C 4C 5 6 7 8C 9 10 11C 12C 13 14 15 16 17 18 19C 20 21C 22 23C 24C 25 26 27 28 29 30C 31 32 33 34 35 36 37 38 39C 40 41 42 43 44C 45 46 47 48C 49 50
  try refine wp_region_noPanic ?_
  refine wp_region_lat (by kernel_rfl) ?_
  (refine lat_now 0 (by rfl) ?_ (by kernel_rfl) (fun _ _ _ h => h) ?_ ?_; rotate_left; (focus (intro wq hSw; refine exec_load_blk (x := .tmp 3) ?_ ?_ (hq.below hSw hq.lt) _ Try.underlying57 rfl (by kernel_rfl) <;> rfl)); simp only [Act.put, List.setIfInBounds_toArray, List.set_cons_zero, List.set_cons_succ])
  (refine lat_now 2 (by rfl) ?_ (by kernel_rfl) (fun _ _ _ h => h) ?_ ?_; rotate_left; (focus (intro wq hSw; refine exec_load_blk (x := .tmp 3) ?_ ?_ (hq.below hSw hq.lt) _ Try.underlying57 rfl (by kernel_rfl) <;> rfl)); simp only [Act.put, List.setIfInBounds_toArray, List.set_cons_zero, List.set_cons_succ])
  (refine lat_late 1 (by rfl) (.bool (goodO a h id cs)) (by kernel_rfl) (fun _ _ _ h => h) (fun wq hSw => ⟨_, _, ?_, openGood_any wq a h id A k c cs (Lat.seen hS hSw) hn⟩) ?_; focus (go_simp; try with_reducible rfl; done); try simp only [Act.put, List.setIfInBounds_toArray, List.set_cons_zero, List.set_cons_succ])
  refine lat_call 3 (by rfl) (by kernel_rfl) (by rfl) (fun wx1 hx1 KQ hKQ => ?_)
  go_simp
  replace hq := hq.below hx1 hq.lt
  replace hq' := hq'.below hx1 hq'.lt
  replace hB := hB.trans (hx1.mono hB.size)
  replace hS := Lat.seen hS hx1
  replace hS' := Lat.seen hS' hx1
  refine (plain8_any wx1 a h id A k c cs hS (by omega)).mono ?_
  rintro e w3 ⟨v3, rfl, hrow, hb⟩
  obtain ⟨A3, c3, rfl, hS3⟩ := hrow.seenN hl.out (Nat.zero_le _)
  clear hrow
  replace hS := Lat.seen hS hb
  replace hS' := Lat.seen hS' hb
  refine hKQ.out _ _ hb ?_
  clear hKQ KQ
  replace hq := hq.below hb hq.lt
  replace hq' := hq'.below hb hq'.lt
  replace hB := hB.trans (hb.mono hB.size)
  try simp only [Act.put, List.setIfInBounds_toArray, List.set_cons_zero, List.set_cons_succ]
  (refine lat_late 4 (by rfl) (.bool (goodO a h id cs)) (by kernel_rfl) (fun _ _ _ h => h) (fun wq hSw => ⟨_, _, ?_, refGood8_any wq a h id A3 k c3 cs (Lat.seen hS3 hSw) hn⟩) ?_; focus (go_simp; try with_reducible rfl; done); try simp only [Act.put, List.setIfInBounds_toArray, List.set_cons_zero, List.set_cons_succ])
  (refine lat_now 5 (by rfl) ?_ (by kernel_rfl) (fun _ _ _ h => h) ?_ ?_; rotate_left; (focus (intro wq hSw; have hrd : ∀ b o, b < w3.heap.size → wq.cell? ⟨b, o, none⟩ = w3.cell? ⟨b, o, none⟩ := (fun b o h => Below.cell hSw (p := ⟨b, o, none⟩) h); go_simp; try with_reducible rfl; done)); try simp only [Act.put, List.setIfInBounds_toArray, List.set_cons_zero, List.set_cons_succ])
  (refine lat_now 6 (by rfl) ?_ (by kernel_rfl) (fun _ _ _ h => h) ?_ ?_; rotate_left; (focus (intro wq hSw; have hrd : ∀ b o, b < w3.heap.size → wq.cell? ⟨b, o, none⟩ = w3.cell? ⟨b, o, none⟩ := (fun b o h => Below.cell hSw (p := ⟨b, o, none⟩) h); go_simp; try with_reducible rfl; done)); try simp only [Act.put, List.setIfInBounds_toArray, List.set_cons_zero, List.set_cons_succ])
  (refine lat_now 7 (by rfl) ?_ (by kernel_rfl) (fun _ _ _ h => h) ?_ ?_; rotate_left; (focus (intro wq hSw; refine exec_load_blk (x := .tmp 3) ?_ ?_ (hq.below hSw hq.lt) _ Try.underlying57 rfl (by kernel_rfl) <;> rfl)); simp only [Act.put, List.setIfInBounds_toArray, List.set_cons_zero, List.set_cons_succ])
  (refine lat_now 10 (by rfl) ?_ (by kernel_rfl) (fun _ _ _ h => h) ?_ ?_; rotate_left; (focus (intro wq hSw; refine exec_load_blk (x := .tmp 3) ?_ ?_ (hq.below hSw hq.lt) _ Try.underlying57 rfl (by kernel_rfl) <;> rfl)); simp only [Act.put, List.setIfInBounds_toArray, List.set_cons_zero, List.set_cons_succ])
  refine lat_call 8 (by rfl) (by kernel_rfl) (by rfl) (fun wx4 hx4 KQ hKQ => ?_)
  go_simp
  replace hq := hq.below hx4 hq.lt
  replace hq' := hq'.below hx4 hq'.lt
  replace hB := hB.trans (hx4.mono hB.size)
  replace hS := Lat.seen hS hx4
  replace hS' := Lat.seen hS' hx4
  refine (openBytes_any wx4 a h id A k c cs hS hn i0 i1).mono ?_
  rintro e w4 ⟨v, rfl, own, hb⟩
  obtain ⟨A4, c4, rfl, _, _, by4, _⟩ := own.any2
  clear own
  replace hS := Lat.seen hS hb
  replace hS' := Lat.seen hS' hb
  try replace hP := Lat.seen hP hb
  refine hKQ.out _ _ hb ?_
  clear hKQ KQ
  replace hq := hq.below hb hq.lt
  replace hq' := hq'.below hb hq'.lt
  replace hB := hB.trans (hb.mono hB.size)
  try simp only [Act.put, List.setIfInBounds_toArray, List.set_cons_zero, List.set_cons_succ]
  (refine lat_now 9 (by rfl) ?_ (by kernel_rfl) (fun _ _ _ h => h) ?_ ?_; rotate_left; (focus (intro wq hSw; have q := run_str wq (by4.below hSw) c4; go_simp; try with_reducible rfl; done)); simp only [Act.put, List.setIfInBounds_toArray, List.set_cons_zero, List.set_cons_succ])
  clear hb
  refine lat_call 11 (by rfl) (by kernel_rfl) (by rfl) (fun wx5 hx5 KQ hKQ => ?_)
  go_simp
  replace hq := hq.below hx5 hq.lt
  replace hq' := hq'.below hx5 hq'.lt
  replace hB := hB.trans (hx5.mono hB.size)
  replace hS := Lat.seen hS hx5
  replace hS' := Lat.seen hS' hx5
  refine (plain8_any wx5 a h id A k c cs hS (by omega)).mono ?_
  rintro e w5 ⟨v, rfl, hrow, hb⟩
  obtain ⟨A5x, c5x, rfl, hP⟩ := hrow.seenN hl.out (Nat.zero_le _)
  clear hrow
  replace hS := Lat.seen hS hb
  replace hS' := Lat.seen hS' hb
  refine hKQ.out _ _ hb ?_
  clear hKQ KQ
  replace hq := hq.below hb hq.lt
  replace hq' := hq'.below hb hq'.lt
  replace hB := hB.trans (hb.mono hB.size)
  try simp only [Act.put, List.setIfInBounds_toArray, List.set_cons_zero, List.set_cons_succ]
  clear hb
  refine lat_call 12 (by rfl) (by kernel_rfl) (by rfl) (fun wx6 hx6 KQ hKQ => ?_)
  go_simp
  replace hq := hq.below hx6 hq.lt
  replace hq' := hq'.below hx6 hq'.lt
  replace hB := hB.trans (hx6.mono hB.size)
  replace hS := Lat.seen hS hx6
  replace hS' := Lat.seen hS' hx6
  replace hP := Lat.seen hP hx6
  refine (refBytes8_any wx6 a h id A5x k c5x cs hP hn i0 i1).mono ?_
  rintro e w6 ⟨v, rfl, own, hb⟩
  obtain ⟨A5, c5, rfl, _, _, by5, _⟩ := own.any2
  clear own
  replace hS := Lat.seen hS hb
  replace hS' := Lat.seen hS' hb
  try replace hP := Lat.seen hP hb
  refine hKQ.out _ _ hb ?_
  clear hKQ KQ
  replace hq := hq.below hb hq.lt
  replace hq' := hq'.below hb hq'.lt
  replace hB := hB.trans (hb.mono hB.size)
  try simp only [Act.put, List.setIfInBounds_toArray, List.set_cons_zero, List.set_cons_succ]
  (refine lat_now 13 (by rfl) ?_ (by kernel_rfl) (fun _ _ _ h => h) ?_ ?_; rotate_left; (focus (intro wq hSw; have q := run_str wq (by5.below hSw) c5; go_simp; try with_reducible rfl; done)); simp only [Act.put, List.setIfInBounds_toArray, List.set_cons_zero, List.set_cons_succ])
  (refine lat_now 14 (by rfl) ?_ (by kernel_rfl) (fun _ _ _ h => h) ?_ ?_; rotate_left; (focus (intro wq hSw; have hrd : ∀ b o, b < w6.heap.size → wq.cell? ⟨b, o, none⟩ = w6.cell? ⟨b, o, none⟩ := (fun b o h => Below.cell hSw (p := ⟨b, o, none⟩) h); go_simp; try with_reducible rfl; done)); try simp only [Act.put, List.setIfInBounds_toArray, List.set_cons_zero, List.set_cons_succ])
  (refine lat_now 15 (by rfl) ?_ (by kernel_rfl) (fun _ _ _ h => h) ?_ ?_; rotate_left; (focus (intro wq hSw; have hrd : ∀ b o, b < w6.heap.size → wq.cell? ⟨b, o, none⟩ = w6.cell? ⟨b, o, none⟩ := (fun b o h => Below.cell hSw (p := ⟨b, o, none⟩) h); go_simp; try with_reducible rfl; done)); try simp only [Act.put, List.setIfInBounds_toArray, List.set_cons_zero, List.set_cons_succ])
  (refine lat_now 16 (by rfl) ?_ (by kernel_rfl) (fun _ _ _ h => h) ?_ ?_; rotate_left; (focus (intro wq hSw; have hrd : ∀ b o, b < w6.heap.size → wq.cell? ⟨b, o, none⟩ = w6.cell? ⟨b, o, none⟩ := (fun b o h => Below.cell hSw (p := ⟨b, o, none⟩) h); go_simp; try with_reducible rfl; done)); try simp only [Act.put, List.setIfInBounds_toArray, List.set_cons_zero, List.set_cons_succ])
  (refine lat_now 17 (by rfl) ?_ (by kernel_rfl) (fun _ _ _ h => h) ?_ ?_; rotate_left; (focus (intro wq hSw; refine exec_load_blk (x := .tmp 3) ?_ ?_ (hq.below hSw hq.lt) _ Try.underlying57 rfl (by kernel_rfl) <;> rfl)); simp only [Act.put, List.setIfInBounds_toArray, List.set_cons_zero, List.set_cons_succ])
  (refine lat_now 18 (by rfl) ?_ (by kernel_rfl) (fun _ _ _ h => h) ?_ ?_; rotate_left; (focus (intro wq hSw; refine exec_load_blk (x := .tmp 4) ?_ ?_ (hq'.below hSw hq'.lt) _ Try.underlying57 rfl (by kernel_rfl) <;> rfl)); simp only [Act.put, List.setIfInBounds_toArray, List.set_cons_zero, List.set_cons_succ])
  (refine lat_now 20 (by rfl) ?_ (by kernel_rfl) (fun _ _ _ h => h) ?_ ?_; rotate_left; (focus (intro wq hSw; refine exec_load_blk (x := .tmp 3) ?_ ?_ (hq.below hSw hq.lt) _ Try.underlying57 rfl (by kernel_rfl) <;> rfl)); simp only [Act.put, List.setIfInBounds_toArray, List.set_cons_zero, List.set_cons_succ])
  (refine lat_now 22 (by rfl) ?_ (by kernel_rfl) (fun _ _ _ h => h) ?_ ?_; rotate_left; (focus (intro wq hSw; refine exec_load_blk (x := .tmp 4) ?_ ?_ (hq'.below hSw hq'.lt) _ Try.underlying57 rfl (by kernel_rfl) <;> rfl)); simp only [Act.put, List.setIfInBounds_toArray, List.set_cons_zero, List.set_cons_succ])
  clear hb
  (refine lat_late 19 (by rfl) (.bool (sameO a h id cs a' h' id' ds)) (by kernel_rfl) (fun _ _ _ h => h) (fun wq hSw => ⟨_, _, ?_, openSame_any wq a h id A k c cs a' h' id' A' n' c' ds (Lat.seen hS hSw) (Lat.seen hS' hSw) (by omega)⟩) ?_; focus (go_simp; try with_reducible rfl; done); try simp only [Act.put, List.setIfInBounds_toArray, List.set_cons_zero, List.set_cons_succ])
  refine lat_call 21 (by rfl) (by kernel_rfl) (by rfl) (fun wa hla KQ hKQ => ?_)
  go_simp
  replace hq := hq.below hla hq.lt
  replace hq' := hq'.below hla hq'.lt
  replace hB := hB.trans (hla.mono hB.size)
  replace hS := Lat.seen hS hla
  replace hS' := Lat.seen hS' hla
  refine (plain8_any wa a h id A k c cs hS (by omega)).mono ?_
  rintro e wb ⟨v, rfl, hrow, hb⟩
  obtain ⟨P21, d21, rfl, hP21⟩ := hrow.seenN hl.out (Nat.zero_le _)
  clear hrow
  replace hS := Lat.seen hS hb
  replace hS' := Lat.seen hS' hb
  refine hKQ.out _ _ hb ?_
  clear hKQ KQ
  replace hq := hq.below hb hq.lt
  replace hq' := hq'.below hb hq'.lt
  replace hB := hB.trans (hb.mono hB.size)
  try simp only [Act.put, List.setIfInBounds_toArray, List.set_cons_zero, List.set_cons_succ]
  clear hb
  refine lat_call 23 (by rfl) (by kernel_rfl) (by rfl) (fun wc hlc KQ hKQ => ?_)
  go_simp
  replace hq := hq.below hlc hq.lt
  replace hq' := hq'.below hlc hq'.lt
  replace hB := hB.trans (hlc.mono hB.size)
  replace hS := Lat.seen hS hlc
  replace hS' := Lat.seen hS' hlc
  replace hP21 := Lat.seen hP21 hlc
  refine (plain8_any wc a' h' id' A' n' c' ds hS' (by omega)).mono ?_
  rintro e wd ⟨v, rfl, hrow, hb⟩
  obtain ⟨P23, d23, rfl, hP23⟩ := hrow.seenN hl'.out (Nat.zero_le _)
  clear hrow
  replace hS := Lat.seen hS hb
  replace hS' := Lat.seen hS' hb
  replace hP21 := Lat.seen hP21 hb
  refine hKQ.out _ _ hb ?_
  clear hKQ KQ
  replace hq := hq.below hb hq.lt
  replace hq' := hq'.below hb hq'.lt
  replace hB := hB.trans (hb.mono hB.size)
  try simp only [Act.put, List.setIfInBounds_toArray, List.set_cons_zero, List.set_cons_succ]
  clear hb
  have lt0 := hq.lt
  have lt1 := hq'.lt
  have q1 : wd.cell? ⟨w.heap.size, 1, none⟩ = some (.int .i64 h) := hq.cellv 1 rfl
  have p1 : wd.cell? ⟨w.heap.size + 1, 1, none⟩ = some (.int .i64 h') := hq'.cellv 1 rfl
  (refine lat_late 24 (by rfl) (.bool (sameO a h id cs a' h' id' ds)) (by kernel_rfl) (fun _ _ _ h => h) (fun wq hSw => ⟨_, _, ?_, refSame8_any wq a h id P21 k d21 cs a' h' id' P23 n' d23 ds (Lat.seen hP21 hSw) (Lat.seen hP23 hSw) (by omega)⟩) ?_; focus (go_simp; try with_reducible rfl; done); try simp only [Act.put, List.setIfInBounds_toArray, List.set_cons_zero, List.set_cons_succ])
  (refine lat_now 25 (by rfl) ?_ (by kernel_rfl) (fun _ _ _ h => h) ?_ ?_; rotate_left; (focus (intro wq hSw; have hrd : ∀ b o, b < wd.heap.size → wq.cell? ⟨b, o, none⟩ = wd.cell? ⟨b, o, none⟩ := (fun b o h => Below.cell hSw (p := ⟨b, o, none⟩) h); go_simp; try with_reducible rfl; done)); try simp only [Act.put, List.setIfInBounds_toArray, List.set_cons_zero, List.set_cons_succ])
  (refine lat_now 26 (by rfl) ?_ (by kernel_rfl) (fun _ _ _ h => h) ?_ ?_; rotate_left; (focus (intro wq hSw; have hrd : ∀ b o, b < wd.heap.size → wq.cell? ⟨b, o, none⟩ = wd.cell? ⟨b, o, none⟩ := (fun b o h => Below.cell hSw (p := ⟨b, o, none⟩) h); go_simp; try with_reducible rfl; done)); try simp only [Act.put, List.setIfInBounds_toArray, List.set_cons_zero, List.set_cons_succ])
  (refine lat_now 27 (by rfl) ?_ (by kernel_rfl) (fun _ _ _ h => h) ?_ ?_; rotate_left; (focus (intro wq hSw; have hrd : ∀ b o, b < wd.heap.size → wq.cell? ⟨b, o, none⟩ = wd.cell? ⟨b, o, none⟩ := (fun b o h => Below.cell hSw (p := ⟨b, o, none⟩) h); go_simp; try with_reducible rfl; done)); try simp only [Act.put, List.setIfInBounds_toArray, List.set_cons_zero, List.set_cons_succ])
  (refine lat_now 28 (by rfl) ?_ (by kernel_rfl) (fun _ _ _ h => h) ?_ ?_; rotate_left; (focus (intro wq hSw; refine exec_load_blk (x := .tmp 3) ?_ ?_ (hq.below hSw hq.lt) _ Try.underlying57 rfl (by kernel_rfl) <;> rfl)); simp only [Act.put, List.setIfInBounds_toArray, List.set_cons_zero, List.set_cons_succ])
  (refine lat_now 29 (by rfl) ?_ (by kernel_rfl) (fun _ _ _ h => h) ?_ ?_; rotate_left; (focus (intro wq hSw; have hrd : ∀ b o, b < wd.heap.size → wq.cell? ⟨b, o, none⟩ = wd.cell? ⟨b, o, none⟩ := (fun b o h => Below.cell hSw (p := ⟨b, o, none⟩) h); go_simp; try with_reducible rfl; done)); try simp only [Act.put, List.setIfInBounds_toArray, List.set_cons_zero, List.set_cons_succ])
  (refine lat_now 31 (by rfl) ?_ (by kernel_rfl) (fun _ _ _ h => h) ?_ ?_; rotate_left; (focus (intro wq hSw; have hrd : ∀ b o, b < wd.heap.size → wq.cell? ⟨b, o, none⟩ = wd.cell? ⟨b, o, none⟩ := (fun b o h => Below.cell hSw (p := ⟨b, o, none⟩) h); go_simp; try with_reducible rfl; done)); try simp only [Act.put, List.setIfInBounds_toArray, List.set_cons_zero, List.set_cons_succ])
  (refine lat_late 30 (by rfl) (.bool (hasC z cs)) (by kernel_rfl) (fun _ _ _ h => h) (fun wq hSw => ⟨_, _, ?_, has_any wq a h id A k c cs z (Lat.seen hS hSw) (by omega)⟩) ?_; focus (go_simp; try with_reducible rfl; done); try simp only [Act.put, List.setIfInBounds_toArray, List.set_cons_zero, List.set_cons_succ])
  (refine lat_now 32 (by rfl) ?_ (by kernel_rfl) (fun _ _ _ h => h) ?_ ?_; rotate_left; (focus (intro wq hSw; have hrd : ∀ b o, b < wd.heap.size → wq.cell? ⟨b, o, none⟩ = wd.cell? ⟨b, o, none⟩ := (fun b o h => Below.cell hSw (p := ⟨b, o, none⟩) h); go_simp; try with_reducible rfl; done)); try simp only [Act.put, List.setIfInBounds_toArray, List.set_cons_zero, List.set_cons_succ])
  (refine lat_now 33 (by rfl) ?_ (by kernel_rfl) (fun _ _ _ h => h) ?_ ?_; rotate_left; (focus (intro wq hSw; have hrd : ∀ b o, b < wd.heap.size → wq.cell? ⟨b, o, none⟩ = wd.cell? ⟨b, o, none⟩ := (fun b o h => Below.cell hSw (p := ⟨b, o, none⟩) h); go_simp; try with_reducible rfl; done)); try simp only [Act.put, List.setIfInBounds_toArray, List.set_cons_zero, List.set_cons_succ])
  (refine lat_now 34 (by rfl) ?_ (by kernel_rfl) (fun _ _ _ h => h) ?_ ?_; rotate_left; (focus (intro wq hSw; have hrd : ∀ b o, b < wd.heap.size → wq.cell? ⟨b, o, none⟩ = wd.cell? ⟨b, o, none⟩ := (fun b o h => Below.cell hSw (p := ⟨b, o, none⟩) h); go_simp; try with_reducible rfl; done)); try simp only [Act.put, List.setIfInBounds_toArray, List.set_cons_zero, List.set_cons_succ])
  (refine lat_now 35 (by rfl) ?_ (by kernel_rfl) (fun _ _ _ h => h) ?_ ?_; rotate_left; (focus (intro wq hSw; have hrd : ∀ b o, b < wd.heap.size → wq.cell? ⟨b, o, none⟩ = wd.cell? ⟨b, o, none⟩ := (fun b o h => Below.cell hSw (p := ⟨b, o, none⟩) h); go_simp; try with_reducible rfl; done)); try simp only [Act.put, List.setIfInBounds_toArray, List.set_cons_zero, List.set_cons_succ])
  (refine lat_now 36 (by rfl) ?_ (by kernel_rfl) (fun _ _ _ h => h) ?_ ?_; rotate_left; (focus (intro wq hSw; have hrd : ∀ b o, b < wd.heap.size → wq.cell? ⟨b, o, none⟩ = wd.cell? ⟨b, o, none⟩ := (fun b o h => Below.cell hSw (p := ⟨b, o, none⟩) h); go_simp; try with_reducible rfl; done)); try simp only [Act.put, List.setIfInBounds_toArray, List.set_cons_zero, List.set_cons_succ])
  (refine lat_now 37 (by rfl) ?_ (by kernel_rfl) (fun _ _ _ h => h) ?_ ?_; rotate_left; (focus (intro wq hSw; have hrd : ∀ b o, b < wd.heap.size → wq.cell? ⟨b, o, none⟩ = wd.cell? ⟨b, o, none⟩ := (fun b o h => Below.cell hSw (p := ⟨b, o, none⟩) h); go_simp; try with_reducible rfl; done)); try simp only [Act.put, List.setIfInBounds_toArray, List.set_cons_zero, List.set_cons_succ])
  (refine lat_now 38 (by rfl) ?_ (by kernel_rfl) (fun _ _ _ h => h) ?_ ?_; rotate_left; (focus (intro wq hSw; have hrd : ∀ b o, b < wd.heap.size → wq.cell? ⟨b, o, none⟩ = wd.cell? ⟨b, o, none⟩ := (fun b o h => Below.cell hSw (p := ⟨b, o, none⟩) h); go_simp; try with_reducible rfl; done)); try simp only [Act.put, List.setIfInBounds_toArray, List.set_cons_zero, List.set_cons_succ])
  (refine lat_now 40 (by rfl) ?_ (by kernel_rfl) (fun _ _ _ h => h) ?_ ?_; rotate_left; (focus (intro wq hSw; have hrd : ∀ b o, b < wd.heap.size → wq.cell? ⟨b, o, none⟩ = wd.cell? ⟨b, o, none⟩ := (fun b o h => Below.cell hSw (p := ⟨b, o, none⟩) h); go_simp; try with_reducible rfl; done)); try simp only [Act.put, List.setIfInBounds_toArray, List.set_cons_zero, List.set_cons_succ])
  (refine lat_now 41 (by rfl) ?_ (by kernel_rfl) (fun _ _ _ h => h) ?_ ?_; rotate_left; (focus (intro wq hSw; have hrd : ∀ b o, b < wd.heap.size → wq.cell? ⟨b, o, none⟩ = wd.cell? ⟨b, o, none⟩ := (fun b o h => Below.cell hSw (p := ⟨b, o, none⟩) h); go_simp; try with_reducible rfl; done)); try simp only [Act.put, List.setIfInBounds_toArray, List.set_cons_zero, List.set_cons_succ])
  (refine lat_now 42 (by rfl) ?_ (by kernel_rfl) (fun _ _ _ h => h) ?_ ?_; rotate_left; (focus (intro wq hSw; have hrd : ∀ b o, b < wd.heap.size → wq.cell? ⟨b, o, none⟩ = wd.cell? ⟨b, o, none⟩ := (fun b o h => Below.cell hSw (p := ⟨b, o, none⟩) h); go_simp; try with_reducible rfl; done)); try simp only [Act.put, List.setIfInBounds_toArray, List.set_cons_zero, List.set_cons_succ])
  (refine lat_now 43 (by rfl) ?_ (by kernel_rfl) (fun _ _ _ h => h) ?_ ?_; rotate_left; (focus (intro wq hSw; have hrd : ∀ b o, b < wd.heap.size → wq.cell? ⟨b, o, none⟩ = wd.cell? ⟨b, o, none⟩ := (fun b o h => Below.cell hSw (p := ⟨b, o, none⟩) h); go_simp; try with_reducible rfl; done)); try simp only [Act.put, List.setIfInBounds_toArray, List.set_cons_zero, List.set_cons_succ])
  (refine lat_late 39 (by rfl) (.int .i64 (holdV h h')) (by kernel_rfl) (fun _ _ _ h => h) (fun wq hSw => ⟨_, _, ?_, (hold_any h h' wq).mono fun e w' hh => ⟨hh.1, hh.2 ▸ Lat.refl _⟩⟩) ?_; focus (go_simp; try with_reducible rfl; done); try simp only [Act.put, List.setIfInBounds_toArray, List.set_cons_zero, List.set_cons_succ])
  (refine lat_late 44 (by rfl) (.int .i64 (holdV h h')) (by kernel_rfl) (fun _ _ _ h => h) (fun wq hSw => ⟨_, _, ?_, (refHold_any h h' wq).mono fun e w' hh => ⟨hh.1, hh.2 ▸ Lat.refl _⟩⟩) ?_; focus (go_simp; try with_reducible rfl; done); try simp only [Act.put, List.setIfInBounds_toArray, List.set_cons_zero, List.set_cons_succ])
  (refine lat_now 45 (by rfl) ?_ (by kernel_rfl) (fun _ _ _ h => h) ?_ ?_; rotate_left; (focus (intro wq hSw; have hrd : ∀ b o, b < wd.heap.size → wq.cell? ⟨b, o, none⟩ = wd.cell? ⟨b, o, none⟩ := (fun b o h => Below.cell hSw (p := ⟨b, o, none⟩) h); go_simp; try with_reducible rfl; done)); try simp only [Act.put, List.setIfInBounds_toArray, List.set_cons_zero, List.set_cons_succ])
  (refine lat_now 46 (by rfl) ?_ (by kernel_rfl) (fun _ _ _ h => h) ?_ ?_; rotate_left; (focus (intro wq hSw; have hrd : ∀ b o, b < wd.heap.size → wq.cell? ⟨b, o, none⟩ = wd.cell? ⟨b, o, none⟩ := (fun b o h => Below.cell hSw (p := ⟨b, o, none⟩) h); go_simp; try with_reducible rfl; done)); try simp only [Act.put, List.setIfInBounds_toArray, List.set_cons_zero, List.set_cons_succ])
  (refine lat_now 47 (by rfl) ?_ (by kernel_rfl) (fun _ _ _ h => h) ?_ ?_; rotate_left; (focus (intro wq hSw; have hrd : ∀ b o, b < wd.heap.size → wq.cell? ⟨b, o, none⟩ = wd.cell? ⟨b, o, none⟩ := (fun b o h => Below.cell hSw (p := ⟨b, o, none⟩) h); go_simp; try with_reducible rfl; done)); try simp only [Act.put, List.setIfInBounds_toArray, List.set_cons_zero, List.set_cons_succ])
  (refine lat_late 48 (by rfl) (.bool true) (by kernel_rfl) (fun _ _ _ h => h) (fun wq hSw => ⟨_, _, ?_, lives8_any wq⟩) ?_; focus (go_simp; try with_reducible rfl; done); try simp only [Act.put, List.setIfInBounds_toArray, List.set_cons_zero, List.set_cons_succ])
  (refine lat_now 49 (by rfl) ?_ (by kernel_rfl) (fun _ _ _ h => h) ?_ ?_; rotate_left; (focus (intro wq hSw; have hrd : ∀ b o, b < wd.heap.size → wq.cell? ⟨b, o, none⟩ = wd.cell? ⟨b, o, none⟩ := (fun b o h => Below.cell hSw (p := ⟨b, o, none⟩) h); go_simp; try with_reducible rfl; done)); try simp only [Act.put, List.setIfInBounds_toArray, List.set_cons_zero, List.set_cons_succ])
  (refine lat_now 50 (by rfl) ?_ (by kernel_rfl) (fun _ _ _ h => h) ?_ ?_; rotate_left; (focus (intro wq hSw; have hrd : ∀ b o, b < wd.heap.size → wq.cell? ⟨b, o, none⟩ = wd.cell? ⟨b, o, none⟩ := (fun b o h => Below.cell hSw (p := ⟨b, o, none⟩) h); go_simp; try with_reducible rfl; done)); try simp only [Act.put, List.setIfInBounds_toArray, List.set_cons_zero, List.set_cons_succ])
  refine lat_done (by kernel_rfl) (fun wz hz => ?_) _
  try refine NoPanic.normal ?_
  go_wp2_with fail
  go_ret
  exact ⟨rfl, hB.trans (hz.mono hB.size)⟩
end Go.Proofs.Ytlpplclhjkbjbaa
