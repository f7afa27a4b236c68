/- tunnel: Unwrap, Is. -/
import Derived.Test.YtnjbnnceeecekaaTunA
namespace Go.Proofs.Ytnjbnnceeecekaa
set_option linter.unusedVariables false
open Go.RowKit

theorem and1 (n : Int) : bits .and .i64 n 1 = n % 2 := by
  show IntKind.i64.wrap ((BitVec.ofInt 64 n &&& BitVec.ofInt 64 1).toNat : Int) = _
  have h1 : (BitVec.ofInt 64 1).toNat = 2 ^ 1 - 1 := by decide
  rw [BitVec.toNat_and, h1, Nat.and_two_pow_sub_one_eq_mod, BitVec.toNat_ofInt, IntKind.wrap_i64]
  omega
attribute [go_sem] and1
theorem results_tct {P : Program} {fn : Func} {a u u2 : Tmp} {ty : TypeId} {w : World} {ad : Addr} {v : Value} (h : fn.results = #[.tmp u, .cell a ty, .tmp u2]) (tmps : Array Value) (ha : tmps.getD a undef = .pointer (some ad)) (hl : (loadVar ty ad).run P w = .ok v w) :
    (results fn tmps).run P w = .ok (.tuple #[tmps.getD u undef, v, tmps.getD u2 undef]) w := by
  have ha2 := ha
  simp only [Array.getD_eq_getD_getElem?] at ha2
  simp [results, h, ha2, asAddr, hl]
def unwE (l : List UInt8) : Int := if errV l ≠ 0 then errV l else if fP l ≠ 4 then 7 else if 0 < fG l ∨ fF l % 2 ≠ 0 then 8 else errV (payL l)
def unwL (l : List UInt8) : List UInt8 := if unwE l = 0 then (payL l).take (lnK (payL l)).toNat else []
theorem unwE_ok {l : List UInt8} (h : unwE l = 0) : errV l = 0 ∧ fP l = 4 ∧ fG l ≤ 0 ∧ fF l % 2 = 0 ∧ errV (payL l) = 0 := by
  unfold unwE at h
  split at h
  · omega
  split at h
  · omega
  split at h
  · omega
  rename_i h1 h2 h3
  exact ⟨by omega, by omega, by omega, by omega, h⟩
set_option maxRecDepth 100000 in
set_option maxHeartbeats 4000000 in
theorem unwrap_no (w : World) (A : Option Addr) (n c : Nat) (l : List UInt8) (h : Byt w w.heap.size A n l) (hc : n ≤ c) (hc2 : c ≤ maxLen) (hn : n ≤ 10000000) (hu : unwE l ≠ 0) :
    Calls Try.prog 22 #[.slice A n c] w fun e w' => e = .returned (.tuple #[.slice none 0 0, .agg zCs, .int .i64 (unwE l)]) ∧ Below w.heap.size w w' := by
  have hi : (Try.prog.info? 55).map (·.size) = some 9 := by kernel_rfl
  have hr := Blk.new w 55 #[.int .i64 0, .int .i64 0, .int .i64 0, .int .i64 0, .int .i64 0, .int .i64 0, .int .u32 0, .int .u32 0, .slice none 0 0]
  have hB := (Below.refl w.heap.size w).alloc (Nat.le_refl _) (.cells #[.int .i64 0, .int .i64 0, .int .i64 0, .int .i64 0, .int .i64 0, .int .i64 0, .int .u32 0, .int .u32 0, .slice none 0 0] 55)
  have hI := h.nx hB
  have hpl := payL_len l
  go_enter Try.func22, Try.ntmps22
  go_wp2_with fail
  refine (ipParse_any _ A n c l hI hc hc2 hn).mono ?_
  rintro e w1 ⟨vo, vp, rfl, owno, ownp, hb1⟩
  unfold parsed
  obtain ⟨Ap1, cp1, rfl, hcp1, hcm1, hp1, _⟩ := ownp.any2
  obtain ⟨Ao1, co1, rfl, hco1, _, _⟩ := owno.any
  replace hB := hB.trans (hb1.mono hB.size)
  replace hr := hr.below hb1 hr.lt
  have hwz := hr.lt
  have hbx := (Below.refl w1.heap.size w1).alloc (Nat.le_refl _) (.cells #[.int .i64 (fT l), .int .i64 (fI l), .int .i64 (fF l), .int .i64 (fG l), .int .i64 (fL l), .int .i64 (fP l), .int .u32 (fS l), .int .u32 (fD l), .slice Ao1 (optL l).length co1] 55)
  have hq1 := Blk.new w1 55 #[.int .i64 (fT l), .int .i64 (fI l), .int .i64 (fF l), .int .i64 (fG l), .int .i64 (fL l), .int .i64 (fP l), .int .u32 (fS l), .int .u32 (fD l), .slice Ao1 (optL l).length co1]
  replace hB := hB.trans (hbx.mono hB.size)
  replace hr := hr.below hbx hr.lt
  replace hp1 := hp1.nx hbx
  replace owno := owno.below hbx
  clear hb1 hI ownp
  clear owno hbx
  by_cases he : errV l = 0
  rotate_left
  · have hb : (errV l != 0) = true := by simpa using he
    have e1 : unwE l = errV l := if_pos he
    replace he := Lib.hid he
    replace e1 := Lib.hid e1
    replace hu := Lib.hid hu
    go_wp2_with (refine wpList_store_blk rfl hr 55 (.tmp 3) (.tmp 39) rfl rfl rfl rfl hi (by simp [Value.oneCell']) ?_; intro w3 hr3 hg3)
    refine bodyPost_ret (results_tct rfl _ rfl (load_blk hr3 Try.underlying55 rfl hi)) rfl ?_
    exact ⟨by rw [e1.out]; rfl, below_own hB hg3 hB.size (Nat.le_refl _)⟩
  rw [he]
  by_cases hp : fP l = 4
  rotate_left
  · have hb : (fP l != 4) = true := by simpa using hp
    have e1 : unwE l = 7 := by unfold unwE; rw [if_neg (by simpa using he), if_pos hp]
    replace he := Lib.hid he
    replace e1 := Lib.hid e1
    replace hu := Lib.hid hu
    replace hp := Lib.hid hp
    go_wp2_with (refine wpList_store_blk rfl hr 55 (.tmp 3) (.tmp 39) rfl rfl rfl rfl hi (by simp [Value.oneCell']) ?_; intro w3 hr3 hg3)
    refine bodyPost_ret (results_tct rfl _ rfl (load_blk hr3 Try.underlying55 rfl hi)) rfl ?_
    exact ⟨by rw [e1.out]; rfl, below_own hB hg3 hB.size (Nat.le_refl _)⟩
  have hp2 : (fP l != 4) = false := by simpa using hp
  by_cases hf : 0 < fG l ∨ fF l % 2 ≠ 0
  · have e1 : unwE l = 8 := by unfold unwE; rw [if_neg (by simpa using he), if_neg (by simpa using hp), if_pos hf]
    replace he := Lib.hid he
    replace e1 := Lib.hid e1
    replace hu := Lib.hid hu
    replace hp := Lib.hid hp
    by_cases hg : 0 < fG l
    · clear hf
      go_wp2_with (refine wpList_store_blk rfl hr 55 (.tmp 3) (.tmp 39) rfl rfl rfl rfl hi (by simp [Value.oneCell']) ?_; intro w3 hr3 hg3)
      refine bodyPost_ret (results_tct rfl _ rfl (load_blk hr3 Try.underlying55 rfl hi)) rfl ?_
      exact ⟨by rw [e1.out]; rfl, below_own hB hg3 hB.size (Nat.le_refl _)⟩
    · have hf2 : (fF l % 2 != 0) = true := by rw [bne_iff_ne]; omega
      replace hg : fG l ≤ 0 := by omega
      clear hf
      go_wp2_with (refine wpList_store_blk rfl hr 55 (.tmp 3) (.tmp 39) rfl rfl rfl rfl hi (by simp [Value.oneCell']) ?_; intro w3 hr3 hg3)
      refine bodyPost_ret (results_tct rfl _ rfl (load_blk hr3 Try.underlying55 rfl hi)) rfl ?_
      exact ⟨by rw [e1.out]; rfl, below_own hB hg3 hB.size (Nat.le_refl _)⟩
  have hg : fG l ≤ 0 := by omega
  have hf2 : (fF l % 2 != 0) = false := by rw [bne_eq_false_iff_eq]; omega
  have e1 : unwE l = errV (payL l) := by unfold unwE; rw [if_neg (by simpa using he), if_neg (by simpa using hp), if_neg hf]
  have hne : (errV (payL l) != 0) = true := by rw [← e1]; simpa using hu
  clear hf
  replace he := Lib.hid he
  replace e1 := Lib.hid e1
  replace hu := Lib.hid hu
  replace hp := Lib.hid hp
  go_wp2_with fail
  generalize w1.alloc (.cells #[.int .i64 (fT l), .int .i64 (fI l), .int .i64 (fF l), .int .i64 (fG l), .int .i64 (fL l), .int .i64 (fP l), .int .u32 (fS l), .int .u32 (fD l), .slice Ao1 (optL l).length co1] 55) = u1 at *
  refine (ipParse_any u1 Ap1 _ cp1 (payL l) hp1 hcp1 hcm1 (by omega)).mono ?_
  rintro e w2 ⟨vo2, vp2, rfl, owno2, ownp2, hb2⟩
  unfold parsed
  replace hB := hB.trans (hb2.mono hB.size)
  replace hr := hr.below hb2 hr.lt
  go_wp2_with (refine wpList_store_blk rfl hr 55 (.tmp 3) (.tmp 39) rfl rfl rfl rfl hi (by simp [Value.oneCell']) ?_; intro w3 hr3 hg3)
  refine bodyPost_ret (results_tct rfl _ rfl (load_blk hr3 Try.underlying55 rfl hi)) rfl ?_
  exact ⟨by rw [e1.out]; rfl, below_own hB hg3 hB.size (Nat.le_refl _)⟩
set_option maxRecDepth 100000 in
set_option maxHeartbeats 4000000 in
theorem unwrap_yes (w : World) (A : Option Addr) (n c : Nat) (l : List UInt8) (h : Byt w w.heap.size A n l) (hc : n ≤ c) (hc2 : c ≤ maxLen) (hn : n ≤ 10000000) (hu : unwE l = 0) :
    Calls Try.prog 22 #[.slice A n c] w fun e w' => ∃ v Ao1 co1, e = .returned (.tuple #[v, .agg #[.int .i64 (fT l), .int .i64 (fI l), .int .i64 (fF l), .int .i64 (fG l), .int .i64 (fL l), .int .i64 (fP l), .int .u32 (fS l), .int .u32 (fD l), .slice Ao1 (optL l).length co1], .int .i64 0]) ∧ OwnB w' w.heap.size v (lnK (payL l)).toNat (unwL l) ∧ OwnB w' w.heap.size (.slice Ao1 (optL l).length co1) (optL l).length (optL l) ∧ Below w.heap.size w w' := by
  have e1 : unwL l = (payL l).take (lnK (payL l)).toNat := if_pos hu
  obtain ⟨he, hp, hg, hf, hpe⟩ := unwE_ok hu
  have hp2 : (fP l != 4) = false := by simpa using hp
  have hf2 : (fF l % 2 != 0) = false := by simpa using hf
  have hne : (errV (payL l) != 0) = false := by simpa using hpe
  have hpz : 0 < (payL l).length := by have := (errV_ok hpe).1; omega
  replace hu := Lib.hid hu
  replace e1 := Lib.hid e1
  replace hp := Lib.hid hp
  replace hf := Lib.hid hf
  replace he := Lib.hid he
  replace hpe := Lib.hid hpe
  have hi : (Try.prog.info? 55).map (·.size) = some 9 := by kernel_rfl
  have hr := Blk.new w 55 #[.int .i64 0, .int .i64 0, .int .i64 0, .int .i64 0, .int .i64 0, .int .i64 0, .int .u32 0, .int .u32 0, .slice none 0 0]
  have hB := (Below.refl w.heap.size w).alloc (Nat.le_refl _) (.cells #[.int .i64 0, .int .i64 0, .int .i64 0, .int .i64 0, .int .i64 0, .int .i64 0, .int .u32 0, .int .u32 0, .slice none 0 0] 55)
  have hI := h.nx hB
  have hpl := payL_len l
  go_enter Try.func22, Try.ntmps22
  go_wp2_with fail
  refine (ipParse_any _ A n c l hI hc hc2 hn).mono ?_
  rintro e w1 ⟨vo, vp, rfl, owno, ownp, hb1⟩
  unfold parsed
  obtain ⟨Ap1, cp1, rfl, hcp1, hcm1, hp1, _⟩ := ownp.any2
  obtain ⟨Ao1, co1, rfl, hco1, _, _⟩ := owno.any
  replace hB := hB.trans (hb1.mono hB.size)
  replace hr := hr.below hb1 hr.lt
  have hwz := hr.lt
  have hbx := (Below.refl w1.heap.size w1).alloc (Nat.le_refl _) (.cells #[.int .i64 (fT l), .int .i64 (fI l), .int .i64 (fF l), .int .i64 (fG l), .int .i64 (fL l), .int .i64 (fP l), .int .u32 (fS l), .int .u32 (fD l), .slice Ao1 (optL l).length co1] 55)
  have hq1 := Blk.new w1 55 #[.int .i64 (fT l), .int .i64 (fI l), .int .i64 (fF l), .int .i64 (fG l), .int .i64 (fL l), .int .i64 (fP l), .int .u32 (fS l), .int .u32 (fD l), .slice Ao1 (optL l).length co1]
  replace hB := hB.trans (hbx.mono hB.size)
  replace hr := hr.below hbx hr.lt
  replace hp1 := hp1.nx hbx
  replace owno := owno.below hbx
  clear hb1 hI ownp
  rw [he.out]
  replace owno := owno.less (base' := w.heap.size + 1) (by simp)
  go_wp2_with fail
  clear hbx
  generalize hU1 : w1.alloc (.cells #[.int .i64 (fT l), .int .i64 (fI l), .int .i64 (fF l), .int .i64 (fG l), .int .i64 (fL l), .int .i64 (fP l), .int .u32 (fS l), .int .u32 (fD l), .slice Ao1 (optL l).length co1] 55) = u1 at *
  clear hU1
  generalize hG1 : w1.heap.size = G1 at *
  clear hG1
  refine (ipParse_any u1 Ap1 _ cp1 (payL l) hp1 hcp1 hcm1 (by omega)).mono ?_
  rintro e w2 ⟨vo2, vp2, rfl, owno2, ownp2, hb2⟩
  unfold parsed
  rw [hpe.out]
  clear owno2 ownp2
  have hz1 := hB.size
  replace hB := hB.trans (hb2.mono hB.size)
  replace hr := hr.below hb2 hr.lt
  replace hq1 := hq1.below hb2 hq1.lt
  replace hp1 := hp1.nx hb2
  replace owno := owno.below hb2
  clear hb2
  go_wp2_with fail
  have lt1 := hr.lt
  have lt2 := hq1.lt
  -- region 10: 0 1C 2 3 4M 5
  try refine wp_region_noPanic ?_
  have hs1r : w2.grownBy w2.drew (some w.heap.size) := grown_drew (grown_refl _ _)
  refine wp_region_held_drew (S := fun w' => w2.grownBy w' (some w.heap.size)) (by kernel_rfl) hs1r (fun _ => ?_)
  (refine held_takeA 0 (by rfl) ?_ (by kernel_rfl) (fun _ _ _ h => h) hs1r ?_ ?_; rotate_left; (focus (intro wq hSw; have hrd : ∀ b o, b < w2.heap.size → b ≠ w.heap.size → wq.cell? ⟨b, o, none⟩ = w2.cell? ⟨b, o, none⟩ := (fun b o h hne => grown_cell hSw h hne); go_simp; try with_reducible rfl; done)); try simp only [Act.put, List.setIfInBounds_toArray, List.set_cons_zero, List.set_cons_succ])
  (refine held_takeA 2 (by rfl) ?_ (by kernel_rfl) (fun _ _ _ h => h) hs1r ?_ ?_; rotate_left; (focus (intro wq hSw; refine exec_load_blk (x := .tmp 5) ?_ ?_ (hq1.grown hSw (by simp; omega)) _ Try.underlying55 rfl (by kernel_rfl) <;> rfl)); simp only [Act.put, List.setIfInBounds_toArray, List.set_cons_zero, List.set_cons_succ])
  refine held_callA 1 (by rfl) (by kernel_rfl) (by rfl) (fun KQ hKQ => ?_)
  go_simp
  refine (alone_any w2.drew Ap1 _ cp1 (payL l) hp1.drew hcp1 hcm1 (by omega) hpe.out).mono ?_
  rintro e w3 ⟨v3, rfl, own3, hb3⟩
  have hb23 : Below w2.heap.size w2 w3 := (Below.refl w2.heap.size w2).drew.trans hb3
  have hz2 := hB.size
  replace hB := hB.trans (hb23.mono hB.size)
  replace hr := hr.below hb23 hr.lt
  replace owno := owno.below hb23
  refine hKQ.out _ _ (grown_trans hs1r (grown_of hb3 (Nat.le_refl _) _)) (held_mono (S' := fun w' => w3.grownBy w' (some w.heap.size)) (fun w' h => grown_trans (grown_trans hs1r (grown_of hb3 (Nat.le_refl _) _)) h) _ _ _ _ ?_)
  clear hKQ KQ
  replace hq1 := hq1.grown (grown_trans hs1r (grown_of hb3 (Nat.le_refl _) _)) (by simp; omega)
  have hs2r : w3.grownBy w3 (some w.heap.size) := grown_refl _ _
  try simp only [Act.put, List.setIfInBounds_toArray, List.set_cons_zero, List.set_cons_succ]
  (refine held_takeA 3 (by rfl) ?_ (by kernel_rfl) (fun _ _ _ h => h) hs2r ?_ ?_; rotate_left; (focus (intro wq hSw; have hrd : ∀ b o, b < w3.heap.size → b ≠ w.heap.size → wq.cell? ⟨b, o, none⟩ = w3.cell? ⟨b, o, none⟩ := (fun b o h hne => grown_cell hSw h hne); go_simp; try with_reducible rfl; done)); try simp only [Act.put, List.setIfInBounds_toArray, List.set_cons_zero, List.set_cons_succ])
  refine held_callA 4 (by rfl) (by kernel_rfl) (by rfl) (fun KQ hKQ => ?_)
  refine wp_store_blk hr 55 (.tmp 3) (.tmp 43) (by rfl) (by rfl) (by rfl) (by rfl) (by exact hi) (by simp [Value.oneCell']) ?_
  intro w4 hr4 hg4
  refine hKQ.out _ _ (grown_trans hs2r hg4) (held_mono (S' := fun w' => w4.grownBy w' (some w.heap.size)) (fun w' h => grown_trans (grown_trans hs2r hg4) h) _ _ _ _ ?_)
  clear hKQ KQ
  replace hq1 := hq1.grown (grown_trans hs2r hg4) (by simp; omega)
  have hs3r : w4.grownBy w4 (some w.heap.size) := grown_refl _ _
  try simp only [Act.put]
  (refine held_takeA 5 (by rfl) ?_ (by kernel_rfl) (fun _ _ _ h => h) hs3r ?_ ?_; rotate_left; (focus (intro wq hSw; have hrd : ∀ b o, b < w4.heap.size → b ≠ w.heap.size → wq.cell? ⟨b, o, none⟩ = w4.cell? ⟨b, o, none⟩ := (fun b o h hne => grown_cell hSw h hne); go_simp; try with_reducible rfl; done)); try simp only [Act.put, List.setIfInBounds_toArray, List.set_cons_zero, List.set_cons_succ])
  refine wpAnyH_done (by kernel_rfl) ?_ _
  try refine NoPanic.normal ?_
  go_wp2_with fail
  refine bodyPost_ret (results_tct rfl _ rfl (load_blk hr4 Try.underlying55 rfl hi)) rfl ?_
  refine ⟨v3, Ao1, co1, rfl, ?_, (owno.grown hg4 (by omega)).less (by omega), below_own hB hg4 hB.size (Nat.le_refl _)⟩
  rw [e1.out]
  exact (own3.grown hg4 (by show w.heap.size < w2.heap.size; omega)).less (by show w.heap.size ≤ w2.heap.size; omega)
end Go.Proofs.Ytnjbnnceeecekaa
