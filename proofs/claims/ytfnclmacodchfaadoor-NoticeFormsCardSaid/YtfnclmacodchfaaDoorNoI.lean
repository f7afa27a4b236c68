/- notice: Text of any fault, and the document's. -/
import Derived.Test.YtfnclmacodchfaaDoorNoG
import Derived.Test.YtfnclmacodchfaaDoorNoH
import Derived.Test.YtfnclmacodchfaaDoorNoE
namespace Go.Proofs.YtfnclmacodchfaaDoor
set_option linter.unusedVariables false
open Go Go.RowKit

/-- the head of a text. -/
def txtH (cd sb : Int) : List UInt8 := nmB (idN cd) ++ 32 :: Lib.itoa sb
/-- the text so far. -/
def docS (b d : List UInt8) (k : Nat) : List UInt8 := if k = 0 then b else b ++ 32 :: hexL (d.take k)
theorem nmB_len (k : Nat) : (nmB k).length ≤ 7 := by
  unfold nmB
  split <;> simp
theorem txtH_len (cd sb : Int) (h0 : -9223372036854775808 ≤ sb) (h1 : sb ≤ 9223372036854775807) : (txtH cd sb).length ≤ 29 := by
  have := Lib.itoa_length_le sb h0 h1
  have := nmB_len (idN cd)
  unfold txtH
  simp; omega
/-- a sum of strings fits. -/
def catOk (a b : List UInt8) : Bool := decide (a.length + b.length ≤ 9223372036854775807)
theorem catOk_of {a b : List UInt8} (h : a.length + b.length ≤ 9223372036854775807) : catOk a b = true := decide_eq_true h
@[go_sem high] theorem cat_ss {P : Program} (w : World) (a b : List UInt8) : (Op.stringOp .add (strB a) (strB b)).run P w =
    if catOk a b then .ok (.string (strB (a ++ b))) w else .halt (.unsupported (.resourceLimit "string concatenation: a sum of the lengths that is no int")) w := by
  have e := run_string_add_if (P := P) w (strB a) (strB b)
  rw [e, strB_size, strB_size, strB_cat]
  by_cases h : a.length + b.length ≤ 9223372036854775807
  · rw [if_pos (catOk_of h), if_neg (by omega)]
  · rw [if_pos (show a.length + b.length > 9223372036854775807 by omega), if_neg (show ¬ catOk a b = true by unfold catOk; simpa using h)]
@[go_sem high] theorem cat_sm {P : Program} (w : World) (a : List UInt8) (b : Array UInt8) : (Op.stringOp .add (strB a) ⟨b⟩).run P w =
    if catOk a b.toList then .ok (.string (strB (a ++ b.toList))) w else .halt (.unsupported (.resourceLimit "string concatenation: a sum of the lengths that is no int")) w := by
  have e := cat_ss (P := P) w a b.toList
  have e2 : strB b.toList = ⟨b⟩ := by simp [strB]
  rwa [e2] at e
@[go_sem high] theorem cat_ms {P : Program} (w : World) (a : Array UInt8) (b : List UInt8) : (Op.stringOp .add ⟨a⟩ (strB b)).run P w =
    if catOk a.toList b then .ok (.string (strB (a.toList ++ b))) w else .halt (.unsupported (.resourceLimit "string concatenation: a sum of the lengths that is no int")) w := by
  have e := cat_ss (P := P) w a.toList b
  have e2 : strB a.toList = ⟨a⟩ := by simp [strB]
  rwa [e2] at e
set_option maxRecDepth 100000 in
set_option maxHeartbeats 4000000 in
theorem noText_any (w : World) (hM : Mean w) (hP : Pow w) (cd sb : Int) (h0 : 0 ≤ sb) (h1 : sb ≤ 9223372036854775807) (A : Option Addr) (n c : Nat) (d : List UInt8) (h : Byt w w.heap.size A n d) (hn : n ≤ 6000) :
    Calls Tryd.prog 6 #[.agg #[.int .i64 cd, .int .i64 sb, .slice A n c]] w fun e w' => e = .returned (.string (strB (docS (txtH cd sb) d n))) ∧ Below w.heap.size w w' := by
  have hB := (Below.refl w.heap.size w).alloc (Nat.le_refl _) (.cells #[.int .i64 cd, .int .i64 sb, .slice A n c] 24)
  have hq := Blk.new w 24 #[.int .i64 cd, .int .i64 sb, .slice A n c]
  have hM1 := hM.below hB
  have hP1 := hP.below hB
  have h1' := h.nx hB
  have hl := Lib.hid h.1
  have zI := Lib.itoa_length_le sb (by omega) h1
  have zN := nmB_len (idN cd)
  have zT := txtH_len cd sb (by omega) h1
  obtain ⟨L, hL⟩ : ∃ L, L = nmB (idN cd) := ⟨_, rfl⟩
  obtain ⟨I, hI⟩ : ∃ I, I = Lib.itoa sb := ⟨_, rfl⟩
  have ht : txtH cd sb = L ++ 32 :: I := by rw [hL, hI]; rfl
  rw [ht] at zT ⊢
  rw [← hL] at zN
  rw [← hI] at zI
  replace hL := Lib.hid hL
  replace hI := Lib.hid hI
  clear ht
  have r1 : catOk L [32] = true := catOk_of (by simp; omega)
  have r2 : catOk (L ++ [32]) I = true := catOk_of (by simp; omega)
  go_enter Tryd.func6, Tryd.ntmps6
  go_upto_region 1 with (fail)
  generalize w.alloc (.cells #[.int .i64 cd, .int .i64 sb, .slice A n c] 24) = w1 at *
  have lt0 := hq.lt
  have q0 : w1.cell? ⟨w.heap.size, 0, none⟩ = some (.int .i64 cd) := hq.cellv 0 rfl
  have q1 : w1.cell? ⟨w.heap.size, 1, none⟩ = some (.int .i64 sb) := hq.cellv 1 rfl
  -- region 1: 0 1 2C 3 4 5 6C 7 8
  try refine wp_region_noPanic ?_
  refine wp_region_lat (by kernel_rfl) ?_
  (refine lat_now 0 (by rfl) ?_ (by kernel_rfl) (fun _ _ _ h => h) ?_ ?_; rotate_left; (focus (intro wq hSw; have hrd : ∀ b o, b < w1.heap.size → wq.cell? ⟨b, o, none⟩ = w1.cell? ⟨b, o, none⟩ := (fun b o h => Below.cell hSw (p := ⟨b, o, none⟩) h); go_simp; try with_reducible rfl; done)); try simp only [Act.put, List.setIfInBounds_toArray, List.set_cons_zero, List.set_cons_succ])
  (refine lat_now 1 (by rfl) ?_ (by kernel_rfl) (fun _ _ _ h => h) ?_ ?_; rotate_left; (focus (intro wq hSw; have hrd : ∀ b o, b < w1.heap.size → wq.cell? ⟨b, o, none⟩ = w1.cell? ⟨b, o, none⟩ := (fun b o h => Below.cell hSw (p := ⟨b, o, none⟩) h); go_simp; try with_reducible rfl; done)); try simp only [Act.put, List.setIfInBounds_toArray, List.set_cons_zero, List.set_cons_succ])
  (refine lat_now 4 (by rfl) ?_ (by kernel_rfl) (fun _ _ _ h => h) ?_ ?_; rotate_left; (focus (intro wq hSw; have hrd : ∀ b o, b < w1.heap.size → wq.cell? ⟨b, o, none⟩ = w1.cell? ⟨b, o, none⟩ := (fun b o h => Below.cell hSw (p := ⟨b, o, none⟩) h); go_simp; try with_reducible rfl; done)); try simp only [Act.put, List.setIfInBounds_toArray, List.set_cons_zero, List.set_cons_succ])
  (refine lat_now 5 (by rfl) ?_ (by kernel_rfl) (fun _ _ _ h => h) ?_ ?_; rotate_left; (focus (intro wq hSw; have hrd : ∀ b o, b < w1.heap.size → wq.cell? ⟨b, o, none⟩ = w1.cell? ⟨b, o, none⟩ := (fun b o h => Below.cell hSw (p := ⟨b, o, none⟩) h); go_simp; try with_reducible rfl; done)); try simp only [Act.put, List.setIfInBounds_toArray, List.set_cons_zero, List.set_cons_succ])
  (refine lat_late 2 (by rfl) (.string (strB L)) (by kernel_rfl) (fun _ _ _ h => h) (fun wq hSw => ⟨_, _, ?_, by rw [hL.out]; exact noName_any wq (hM1.below hSw) cd⟩) ?_; focus (go_simp; try with_reducible rfl; done); try simp only [Act.put, List.setIfInBounds_toArray, List.set_cons_zero, List.set_cons_succ])
  (refine lat_now 3 (by rfl) ?_ (by kernel_rfl) (fun _ _ _ h => h) ?_ ?_; rotate_left; (focus (intro wq hSw; have hrd : ∀ b o, b < w1.heap.size → wq.cell? ⟨b, o, none⟩ = w1.cell? ⟨b, o, none⟩ := (fun b o h => Below.cell hSw (p := ⟨b, o, none⟩) h); go_simp; try with_reducible rfl; done)); try simp only [Act.put, List.setIfInBounds_toArray, List.set_cons_zero, List.set_cons_succ])
  (refine lat_late 6 (by rfl) (.string (strB I)) (by kernel_rfl) (fun _ _ _ h => h) (fun wq hSw => ⟨_, _, ?_, by rw [hI.out]; exact itoa_any wq (hP1.below hSw) sb (by omega) h1⟩) ?_; focus (go_simp; try with_reducible rfl; done); try simp only [Act.put, List.setIfInBounds_toArray, List.set_cons_zero, List.set_cons_succ])
  (refine lat_now 7 (by rfl) ?_ (by kernel_rfl) (fun _ _ _ h => h) ?_ ?_; rotate_left; (focus (intro wq hSw; have hrd : ∀ b o, b < w1.heap.size → wq.cell? ⟨b, o, none⟩ = w1.cell? ⟨b, o, none⟩ := (fun b o h => Below.cell hSw (p := ⟨b, o, none⟩) h); go_simp; try with_reducible rfl; done)); try simp only [Act.put, List.setIfInBounds_toArray, List.set_cons_zero, List.set_cons_succ])
  (refine lat_now 8 (by rfl) ?_ (by kernel_rfl) (fun _ _ _ h => h) ?_ ?_; rotate_left; (focus (intro wq hSw; have hrd : ∀ b o, b < w1.heap.size → wq.cell? ⟨b, o, none⟩ = w1.cell? ⟨b, o, none⟩ := (fun b o h => Below.cell hSw (p := ⟨b, o, none⟩) h); go_simp; try with_reducible rfl; done)); try simp only [Act.put, List.setIfInBounds_toArray, List.set_cons_zero, List.set_cons_succ])
  refine lat_done (by kernel_rfl) (fun wz hz => ?_) _
  try refine NoPanic.normal ?_
  generalize hLI : L ++ 32 :: I = H at *
  replace hLI := Lib.hid hLI
  replace hq := hq.below hz hq.lt
  have h2 := h1'.nx hz
  have lt2 := hq.lt
  have q2 : wz.cell? ⟨w.heap.size, 2, none⟩ = some (.slice A n c) := hq.cellv 2 rfl
  clear q0 q1 r1 r2
  by_cases hn0 : n = 0
  · have k0 : ¬ ((0 : Int) < n) := by omega
    have hd : docS H d n = H := by unfold docS; rw [if_pos hn0]
    replace hd := Lib.hid hd
    replace hn0 := Lib.hid hn0
    go_wp2_with fail
    go_ret
    exact ⟨by rw [hLI.out, hd.out]; rfl, hB.trans (hz.mono hB.size)⟩
  · have k0 : (0 : Int) < n := by omega
    have hd : docS H d n = H ++ 32 :: hexL d := by unfold docS; rw [if_neg hn0, List.take_of_length_le (by have := hl.out; omega)]
    replace hd := Lib.hid hd
    have zX := hexL_len d
    rw [hl.out] at zX
    have r1 : catOk [32] (hexL d) = true := catOk_of (by simp; omega)
    have r2 : catOk H (32 :: hexL d) = true := catOk_of (by simp; omega)
    go_wp2_with fail
    refine (hex_any wz A n c d h2 (by omega)).mono ?_
    rintro e w5 ⟨rfl, hb5⟩
    replace zX := Lib.hid zX
    go_wp2_with fail
    go_ret
    exact ⟨by rw [hLI.out, hd.out]; rfl, (hB.trans (hz.mono hB.size)).trans (hb5.mono (hB.trans (hz.mono hB.size)).size)⟩
theorem hs_run (x : Nat) (hx : x < 16) (w : World) : (Instr.slice 9 (.string ⟨#[48, 49, 50, 51, 52, 53, 54, 55, 56, 57, 97, 98, 99, 100, 101, 102]⟩) (some (.int .u8 (x : Int))) (some (.int .u8 ((x : Int) + 1))) none).run Tryd.prog w = .ok (.string (strB [hxD x])) w := by
  have hc : x = 0 ∨ x = 1 ∨ x = 2 ∨ x = 3 ∨ x = 4 ∨ x = 5 ∨ x = 6 ∨ x = 7 ∨ x = 8 ∨ x = 9 ∨ x = 10 ∨ x = 11 ∨ x = 12 ∨ x = 13 ∨ x = 14 ∨ x = 15 := by omega
  clear hx
  rcases hc with rfl | rfl | rfl | rfl | rfl | rfl | rfl | rfl | rfl | rfl | rfl | rfl | rfl | rfl | rfl | rfl <;> (show _ = _; kernel_rfl)
set_option maxRecDepth 100000 in
set_option maxHeartbeats 8000000 in
theorem refNoText_any (w : World) (cd sb : Int) (h0 : 0 ≤ sb) (h1 : sb ≤ 9223372036854775807) (A : Option Addr) (n c : Nat) (d : List UInt8) (h : Byt w w.heap.size A n d) (hn : n ≤ 6000) :
    Calls Tryd.prog 7 #[.agg #[.int .i64 cd, .int .i64 sb, .slice A n c]] w fun e w' => e = .returned (.string (strB (docS (txtH cd sb) d n))) ∧ Below w.heap.size w w' := by
  have hB := (Below.refl w.heap.size w).alloc (Nat.le_refl _) (.cells #[.int .i64 cd, .int .i64 sb, .slice A n c] 24)
  have hq := Blk.new w 24 #[.int .i64 cd, .int .i64 sb, .slice A n c]
  have h1' := h.nx hB
  have hl := Lib.hid h.1
  have zI := Lib.itoa_length_le sb (by omega) h1
  have zN := nmB_len (idN cd)
  have zT := txtH_len cd sb (by omega) h1
  obtain ⟨L, hL⟩ : ∃ L, L = nmB (idN cd) := ⟨_, rfl⟩
  obtain ⟨I, hI⟩ : ∃ I, I = Lib.itoa sb := ⟨_, rfl⟩
  have hI2 : I = Lib.decDigits sb.toNat := by rw [hI, Lib.itoa, if_neg (by omega)]
  have ht : txtH cd sb = L ++ 32 :: I := by rw [hL, hI]; rfl
  rw [ht] at zT ⊢
  rw [← hL] at zN
  rw [← hI] at zI
  replace hL := Lib.hid hL
  replace hI := Lib.hid hI2
  clear ht hI2
  have r1 : catOk L [32] = true := catOk_of (by simp; omega)
  have r2 : catOk (L ++ [32]) I = true := catOk_of (by simp; omega)
  have hdg := refDigits_any sb.toNat (by omega)
  rw [Int.toNat_of_nonneg h0, ← hI.out] at hdg
  go_enter Tryd.func7, Tryd.ntmps7
  go_upto_region 1 with (fail)
  generalize w.alloc (.cells #[.int .i64 cd, .int .i64 sb, .slice A n c] 24) = w1 at *
  have lt0 := hq.lt
  have q0 : w1.cell? ⟨w.heap.size, 0, none⟩ = some (.int .i64 cd) := hq.cellv 0 rfl
  have q1 : w1.cell? ⟨w.heap.size, 1, none⟩ = some (.int .i64 sb) := hq.cellv 1 rfl
  -- region 1: 0 1 2C 3 4 5 6C 7 8
  try refine wp_region_noPanic ?_
  refine wp_region_lat (by kernel_rfl) ?_
  (refine lat_now 0 (by rfl) ?_ (by kernel_rfl) (fun _ _ _ h => h) ?_ ?_; rotate_left; (focus (intro wq hSw; have hrd : ∀ b o, b < w1.heap.size → wq.cell? ⟨b, o, none⟩ = w1.cell? ⟨b, o, none⟩ := (fun b o h => Below.cell hSw (p := ⟨b, o, none⟩) h); go_simp; try with_reducible rfl; done)); try simp only [Act.put, List.setIfInBounds_toArray, List.set_cons_zero, List.set_cons_succ])
  (refine lat_now 1 (by rfl) ?_ (by kernel_rfl) (fun _ _ _ h => h) ?_ ?_; rotate_left; (focus (intro wq hSw; have hrd : ∀ b o, b < w1.heap.size → wq.cell? ⟨b, o, none⟩ = w1.cell? ⟨b, o, none⟩ := (fun b o h => Below.cell hSw (p := ⟨b, o, none⟩) h); go_simp; try with_reducible rfl; done)); try simp only [Act.put, List.setIfInBounds_toArray, List.set_cons_zero, List.set_cons_succ])
  (refine lat_now 4 (by rfl) ?_ (by kernel_rfl) (fun _ _ _ h => h) ?_ ?_; rotate_left; (focus (intro wq hSw; have hrd : ∀ b o, b < w1.heap.size → wq.cell? ⟨b, o, none⟩ = w1.cell? ⟨b, o, none⟩ := (fun b o h => Below.cell hSw (p := ⟨b, o, none⟩) h); go_simp; try with_reducible rfl; done)); try simp only [Act.put, List.setIfInBounds_toArray, List.set_cons_zero, List.set_cons_succ])
  (refine lat_now 5 (by rfl) ?_ (by kernel_rfl) (fun _ _ _ h => h) ?_ ?_; rotate_left; (focus (intro wq hSw; have hrd : ∀ b o, b < w1.heap.size → wq.cell? ⟨b, o, none⟩ = w1.cell? ⟨b, o, none⟩ := (fun b o h => Below.cell hSw (p := ⟨b, o, none⟩) h); go_simp; try with_reducible rfl; done)); try simp only [Act.put, List.setIfInBounds_toArray, List.set_cons_zero, List.set_cons_succ])
  (refine lat_late 2 (by rfl) (.string (strB L)) (by kernel_rfl) (fun _ _ _ h => h) (fun wq hSw => ⟨_, _, ?_, by rw [hL.out]; exact refNoName_any wq cd⟩) ?_; focus (go_simp; try with_reducible rfl; done); try simp only [Act.put, List.setIfInBounds_toArray, List.set_cons_zero, List.set_cons_succ])
  (refine lat_now 3 (by rfl) ?_ (by kernel_rfl) (fun _ _ _ h => h) ?_ ?_; rotate_left; (focus (intro wq hSw; have hrd : ∀ b o, b < w1.heap.size → wq.cell? ⟨b, o, none⟩ = w1.cell? ⟨b, o, none⟩ := (fun b o h => Below.cell hSw (p := ⟨b, o, none⟩) h); go_simp; try with_reducible rfl; done)); try simp only [Act.put, List.setIfInBounds_toArray, List.set_cons_zero, List.set_cons_succ])
  (refine lat_late 6 (by rfl) (.string (strB I)) (by kernel_rfl) (fun _ _ _ h => h) (fun wq hSw => ⟨_, _, ?_, by refine (hdg wq).mono ?_; rintro e w' ⟨rfl, rfl⟩; exact ⟨rfl, Below.refl _ _⟩⟩) ?_; focus (go_simp; try with_reducible rfl; done); try simp only [Act.put, List.setIfInBounds_toArray, List.set_cons_zero, List.set_cons_succ])
  (refine lat_now 7 (by rfl) ?_ (by kernel_rfl) (fun _ _ _ h => h) ?_ ?_; rotate_left; (focus (intro wq hSw; have hrd : ∀ b o, b < w1.heap.size → wq.cell? ⟨b, o, none⟩ = w1.cell? ⟨b, o, none⟩ := (fun b o h => Below.cell hSw (p := ⟨b, o, none⟩) h); go_simp; try with_reducible rfl; done)); try simp only [Act.put, List.setIfInBounds_toArray, List.set_cons_zero, List.set_cons_succ])
  (refine lat_now 8 (by rfl) ?_ (by kernel_rfl) (fun _ _ _ h => h) ?_ ?_; rotate_left; (focus (intro wq hSw; have hrd : ∀ b o, b < w1.heap.size → wq.cell? ⟨b, o, none⟩ = w1.cell? ⟨b, o, none⟩ := (fun b o h => Below.cell hSw (p := ⟨b, o, none⟩) h); go_simp; try with_reducible rfl; done)); try simp only [Act.put, List.setIfInBounds_toArray, List.set_cons_zero, List.set_cons_succ])
  refine lat_done (by kernel_rfl) (fun wz hz => ?_) _
  try refine NoPanic.normal ?_
  generalize hLI : L ++ 32 :: I = H at *
  replace hLI := Lib.hid hLI
  replace hq := hq.below hz hq.lt
  have h2 := h1'.nx hz
  have lt2 := hq.lt
  have q2 : wz.cell? ⟨w.heap.size, 2, none⟩ = some (.slice A n c) := hq.cellv 2 rfl
  have hBz := hB.trans (hz.mono hB.size)
  clear q0 q1 r1 r2 hz hB hdg
  have hH : docS H d 0 = H := rfl
  go_wp2_with fail
  go_loopw [3, 4, 5, 17] (fun s _ _ i wr => ∃ k : Nat, k ≤ n ∧ i = .int .i64 (k : Int) ∧ s = .string (strB (docS H d k)) ∧ wr = wz) (fun _ _ _ i _ => n - (intOf i).toNat)
  case atStart => exact ⟨0, Nat.zero_le _, rfl, rfl, rfl⟩
  case round =>
  obtain ⟨k, hk, rfl, rfl, rfl⟩ := hrel
  by_cases hlt : k < n
  · have hki : (k : Int) < n := by omega
    obtain ⟨b, off, rfl, hbl, hc⟩ := h2.2 (by omega)
    have d0 : wr.cell? ⟨b, off + k, none⟩ = some (.int .u8 (d[k]?.getD 0).toNat) := hc k hlt
    clear hc
    obtain ⟨x, hx⟩ : ∃ x, d[k]? = some x := ⟨_, List.getElem?_eq_getElem (by have := hl.out; omega)⟩
    have ht0 : k = 0 → docS H d 1 = H ++ [32, hxD (x.toNat / 16), hxD (x.toNat % 16)] := fun h0 => by
      subst h0
      have e := hexL_take d 0 x hx
      unfold docS
      rw [if_neg (by omega), e]
      simp [hexL]
    have ht1 : k ≠ 0 → docS H d (k + 1) = docS H d k ++ [hxD (x.toNat / 16), hxD (x.toNat % 16)] := fun h0 => by
      have e := hexL_take d k x hx
      unfold docS
      rw [if_neg (by omega), if_neg h0, e]
      simp
    rw [hx, Option.getD_some] at d0
    have hx1 := x.toNat_lt
    have hI1 := hs_run (x.toNat / 16) (by omega)
    have hI2 := hs_run (x.toNat % 16) (by omega)
    rw [show ((x.toNat / 16 : Nat) : Int) = (x.toNat : Int) / 16 by omega] at hI1
    rw [show ((x.toNat % 16 : Nat) : Int) = (x.toNat : Int) % 16 by omega] at hI2
    have w0 : (x.toNat : Int) / 16 % 256 = (x.toNat : Int) / 16 := by omega
    have w1 : ((x.toNat : Int) / 16 + 1) % 256 = (x.toNat : Int) / 16 + 1 := by omega
    have w2 : ((x.toNat : Int) % 16 + 1) % 256 = (x.toNat : Int) % 16 + 1 := by omega
    have zk := hexL_len (d.take k)
    rw [List.length_take, Nat.min_eq_left (by have := hl.out; omega)] at zk
    have zd : (docS H d k).length ≤ 12100 := by unfold docS; split <;> (try simp) <;> omega
    replace zk := Lib.hid zk
    generalize hS : docS H d k = S at *
    generalize hxD (x.toNat / 16) = y1 at *
    generalize hxD (x.toNat % 16) = y2 at *
    by_cases hk0 : k = 0
    · have ht := ht0 hk0
      clear ht0 ht1
      subst hk0
      replace ht := Lib.hid ht
      rw [hH] at hS
      subst hS
      have d1 : wr.cell? ⟨b, off, none⟩ = some (.int .u8 x.toNat) := d0
      clear d0
      have hk1 : (0 : Int) < n := by omega
      clear hki hk hlt
      have r1 : catOk H [32] = true := catOk_of (by simp; omega)
      have r2 : catOk (H ++ [32]) [y1] = true := catOk_of (by simp; omega)
      have r3 : catOk (H ++ [32, y1]) [y2] = true := catOk_of (by simp; omega)
      go_wp2_with fail
      exact ⟨⟨1, by omega, by go_num, by rw [ht.out], trivial⟩, by simp [intOf]; omega⟩
    · have hk1 : ¬ ((k : Int) = 0) := by omega
      have ht := ht1 hk0
      clear ht0 ht1
      replace ht := Lib.hid ht
      replace hS := Lib.hid hS
      have r2 : catOk S [y1] = true := catOk_of (by simp; omega)
      have r3 : catOk (S ++ [y1]) [y2] = true := catOk_of (by simp; omega)
      go_wp2_with fail
      exact ⟨⟨k + 1, by omega, by go_num, by rw [ht.out], trivial⟩, by simp [intOf]; omega⟩
  · obtain rfl : k = n := by omega
    go_wp2_with fail
    go_ret
    exact ⟨by rw [hLI.out]; rfl, hBz⟩
end Go.Proofs.YtfnclmacodchfaaDoor
