/- open: OpenReads, the walk. -/
import Derived.Test.YtlpplclhjkbjbaaOpMa
import Derived.Test.YtlpplclhjkbjbaaOpMb
import Derived.Test.YtlpplclhjkbjbaaOpL
namespace Go.Proofs.Ytlpplclhjkbjbaa
set_option linter.unusedVariables false
open Go.RowKit

theorem parF_len : ∀ (n : Nat) (s : St) (ds : List CapD), parF n s = .ok ds → ds.length ≤ s.l.length
  | 0, s, ds, h => by unfold parF at h; cases h; simp
  | n + 1, s, ds, h => by
    unfold parF at h
    split at h
    · split at h
      · cases h
      · rename_i h1
        split at h
        · cases h
        · split at h
          · cases h
          · rename_i l hc
            cases hx : parF n (cpS3 s) with
            | error x => rw [hx] at h; cases h
            | ok es =>
              rw [hx] at h
              cases h
              have h2 := parF_len n (cpS3 s) es hx
              have h3 : l.length ≤ (cpV s).length := capsS_len hc
              have h4 := cp_both s
              simp; omega
    · cases h; simp
/-- what Parse answers, by parts. -/
def oA : Except (Int × List UInt8) OpenD → Int | .error _ => 0 | .ok d => d.1
def oH : Except (Int × List UInt8) OpenD → Int | .error _ => 0 | .ok d => d.2.1
def oI : Except (Int × List UInt8) OpenD → Int | .error _ => 0 | .ok d => d.2.2.1
def oC : Except (Int × List UInt8) OpenD → List CapD | .error _ => [] | .ok d => d.2.2.2
def fC : Except (Int × List UInt8) OpenD → Int | .error _ => 2 | .ok _ => 0
def fS : Except (Int × List UInt8) OpenD → Int | .error x => x.1 | .ok _ => 0
def fD : Except (Int × List UInt8) OpenD → List UInt8 | .error x => x.2 | .ok _ => []
theorem oC_len (l : List UInt8) (p : Int) : (oC (parseO l p)).length ≤ l.length := by
  unfold parseO
  split
  · simp [oC]
  · rename_i h10
    have h5 := poS5_e l (by omega)
    repeat' split
    all_goals first | (simp [oC]; done) | skip
    rename_i ds hd
    have : ds.length ≤ _ := parF_len _ _ _ hd
    show ds.length ≤ l.length
    omega
theorem ParseP.all {T : TypeId} {w w' : World} {e : Ending} {r : Except (Int × List UInt8) OpenD} (h : ParseP T w w' e r) :
    ∃ A n c cs A2 n2 c2, e = .returned (.tuple #[.agg #[.int .i64 (oA r), .int .i64 (oH r), .int .u32 (oI r), .slice A n c], .agg #[.int .i64 (fC r), .int .i64 (fS r), .slice A2 n2 c2]]) ∧
      Seen capK w' (fun b => b < w'.heap.size) A n cs ∧ cs.map capKey = oC r ∧ Byt w' w'.heap.size A2 n2 (fD r) := by
  cases r with
  | error x =>
    obtain ⟨v, rfl, own⟩ := h
    obtain ⟨A2, c2, rfl, _, _, by2, _⟩ := own.any2
    exact ⟨none, 0, 0, [], A2, _, c2, rfl, Seen.none_, rfl, by2⟩
  | ok d =>
    obtain ⟨v, rs, rfl, hrow, hk⟩ := h
    obtain ⟨A, c, rfl, _, _, hS⟩ := hrow.seen (Nat.le_refl _)
    exact ⟨A, _, c, rs, none, 0, 0, rfl, hS.more fun b hb => hb.2, hk, Byt.none_⟩
theorem refParse8_any (w : World) (A : Option Addr) (n c : Nat) (l : List UInt8) (p : Int) (h : Byt w w.heap.size A n l) (hn : n ≤ 10000000) :
    Calls Try.prog 42 #[.slice A n c, .int .i64 p] w fun e w' => Below w.heap.size w w' ∧ ParseP 129 w w' e (parseO l p) := by
  by_cases hp : p < 1
  · exact refParse8_lt w A n c l p h hn hp
  · exact refParse8_ge w A n c l p h hn (by omega)
theorem sameO_keys (a h id : Int) (cs ds : List CapV) (hk : cs.map capKey = ds.map capKey) : sameO a h id cs a h id ds = true := by
  unfold sameO keysEq
  simp [hk]
theorem faultB_refl (a s : Int) (d : List UInt8) : faultB a s d a s d = true := by simp [faultB]
set_option maxRecDepth 100000 in
set_option maxHeartbeats 8000000 in
theorem reads8_walk (A : Option Addr) (n c : Nat) (l : List UInt8) (p : Int) (w : World) (_ : n ≤ c) (_ : c ≤ maxLen) (h : Byt w w.heap.size A n l) (_ : (Lit.int .i64 p).wf = true) :
    Calls Try.prog 8 #[.slice A n c, .int .i64 p] w fun e w' => e = .returned (.bool true) ∧ Below w.heap.size w w' := by
  have hll := h.1
  go_enter Try.func8, Try.ntmps8
  by_cases hn : n ≤ 3000
  rotate_left
  · have d1 : (3000 : Int) < n := by omega
    replace hll := Lib.hid hll
    go_wp2_with fail
    refine (lives8_any _).mono ?_
    rintro e w2 ⟨rfl, hb⟩
    go_wp2_with fail
    go_ret
    exact ⟨rfl, hb⟩
  have d1 : (n : Int) ≤ 3000 := by omega
  have hcl := oC_len l p
  replace hll := Lib.hid hll
  go_wp2_with fail
  refine (openParse_any w A n c l p h (by omega)).mono ?_
  rintro e w1 ⟨hB, hP⟩
  obtain ⟨A1, n1, c1, cs, A2, n2, c2, rfl, hS1, hk1, by2⟩ := hP.all
  clear hP
  have hn1 : n1 ≤ 10000 := by
    have e1 := hS1.1
    have e2 : cs.length = (oC (parseO l p)).length := by rw [← hk1, List.length_map]
    have := hll.out
    omega
  generalize hr : parseO l p = r at hS1 hk1 by2 hcl
  replace hr := Lib.hid hr
  have hq := (Blk.new w1 57 #[.int .i64 (oA r), .int .i64 (oH r), .int .u32 (oI r), .slice A1 n1 c1]).alloc (.cells #[.int .i64 (fC r), .int .i64 (fS r), .slice A2 n2 c2] 31)
  have hf : Blk ((w1.alloc (.cells #[.int .i64 (oA r), .int .i64 (oH r), .int .u32 (oI r), .slice A1 n1 c1] 57)).alloc (.cells #[.int .i64 (fC r), .int .i64 (fS r), .slice A2 n2 c2] 31)) (w1.heap.size + 1) 31 #[.int .i64 (fC r), .int .i64 (fS r), .slice A2 n2 c2] := by
    have := Blk.new (w1.alloc (.cells #[.int .i64 (oA r), .int .i64 (oH r), .int .u32 (oI r), .slice A1 n1 c1] 57)) 31 #[.int .i64 (fC r), .int .i64 (fS r), .slice A2 n2 c2]
    simpa using this
  have hba := ((Below.refl w1.heap.size w1).alloc (Nat.le_refl _) (.cells #[.int .i64 (oA r), .int .i64 (oH r), .int .u32 (oI r), .slice A1 n1 c1] 57)).alloc (by simp) (.cells #[.int .i64 (fC r), .int .i64 (fS r), .slice A2 n2 c2] 31)
  replace h := h.nx hB
  replace h := h.nx hba
  replace hS1 := Lat.seen hS1 hba
  replace by2 := by2.nx hba
  replace hB := hB.trans (hba.mono hB.size)
  clear hba
  go_wp2_with fail
  generalize hw2 : (w1.alloc (.cells #[.int .i64 (oA r), .int .i64 (oH r), .int .u32 (oI r), .slice A1 n1 c1] 57)).alloc (.cells #[.int .i64 (fC r), .int .i64 (fS r), .slice A2 n2 c2] 31) = w2 at *
  generalize w1.heap.size = g1 at *
  refine (refParse8_any w2 A n c l p h (by omega)).mono ?_
  rintro e w3 ⟨hb3, hP⟩
  rw [hr.out] at hP
  obtain ⟨A3, n3, c3, ds, A4, n4, c4, rfl, hS3, hk3, by4⟩ := hP.all
  clear hP hw2
  replace hq := hq.below hb3 hq.lt
  replace hf := hf.below hb3 hf.lt
  replace hS1 := Lat.seen hS1 hb3
  replace by2 := by2.nx hb3
  replace hB := hB.trans (hb3.mono hB.size)
  clear hb3
  have hq' := (Blk.new w3 64 #[.int .i64 (oA r), .int .i64 (oH r), .int .u32 (oI r), .slice A3 n3 c3]).alloc (.cells #[.int .i64 (fC r), .int .i64 (fS r), .slice A4 n4 c4] 31)
  have hf' : Blk ((w3.alloc (.cells #[.int .i64 (oA r), .int .i64 (oH r), .int .u32 (oI r), .slice A3 n3 c3] 64)).alloc (.cells #[.int .i64 (fC r), .int .i64 (fS r), .slice A4 n4 c4] 31)) (w3.heap.size + 1) 31 #[.int .i64 (fC r), .int .i64 (fS r), .slice A4 n4 c4] := by
    have := Blk.new (w3.alloc (.cells #[.int .i64 (oA r), .int .i64 (oH r), .int .u32 (oI r), .slice A3 n3 c3] 64)) 31 #[.int .i64 (fC r), .int .i64 (fS r), .slice A4 n4 c4]
    simpa using this
  have hba := ((Below.refl w3.heap.size w3).alloc (Nat.le_refl _) (.cells #[.int .i64 (oA r), .int .i64 (oH r), .int .u32 (oI r), .slice A3 n3 c3] 64)).alloc (by simp) (.cells #[.int .i64 (fC r), .int .i64 (fS r), .slice A4 n4 c4] 31)
  replace hq := hq.below hba hq.lt
  replace hf := hf.below hba hf.lt
  replace hS1 := Lat.seen hS1 hba
  replace hS3 := Lat.seen hS3 hba
  replace by2 := by2.nx hba
  replace by4 := by4.nx hba
  replace hB := hB.trans (hba.mono hB.size)
  clear hba h
  have hsame : sameO (oA r) (oH r) (oI r) cs (oA r) (oH r) (oI r) ds = true := sameO_keys _ _ _ cs ds (by rw [hk1, hk3])
  replace hsame := Lib.hid hsame
  have hl1 := Lib.hid hS1.1
  clear hk1 hk3
  go_wp2_with fail
  generalize (w3.alloc (.cells #[.int .i64 (oA r), .int .i64 (oH r), .int .u32 (oI r), .slice A3 n3 c3] 64)).alloc (.cells #[.int .i64 (fC r), .int .i64 (fS r), .slice A4 n4 c4] 31) = w4 at *
  generalize w3.heap.size = g3 at *
  -- region 5: 0 1C 2 3C 4 5 6 7C 8 9 10C 11 12
  try refine wp_region_noPanic ?_
  refine wp_region_lat (by kernel_rfl) ?_
  (refine lat_now 0 (by rfl) ?_ (by kernel_rfl) (fun _ _ _ h => h) ?_ ?_; rotate_left; (focus (intro wq hSw; refine exec_load_blk (x := .tmp 5) ?_ ?_ (hq.below hSw hq.lt) _ Try.underlying57 rfl (by kernel_rfl) <;> rfl)); simp only [Act.put, List.setIfInBounds_toArray, List.set_cons_zero, List.set_cons_succ])
  (refine lat_now 2 (by rfl) ?_ (by kernel_rfl) (fun _ _ _ h => h) ?_ ?_; rotate_left; (focus (intro wq hSw; refine exec_load_blk (x := .tmp 7) ?_ ?_ (hq'.below hSw hq'.lt) _ Try.underlying64 rfl (by kernel_rfl) <;> rfl)); simp only [Act.put, List.setIfInBounds_toArray, List.set_cons_zero, List.set_cons_succ])
  refine lat_call 1 (by rfl) (by kernel_rfl) (by rfl) (fun wx1 hx1 KQ hKQ => ?_)
  go_simp
  replace hf := hf.below hx1 hf.lt
  replace hf' := hf'.below hx1 hf'.lt
  replace hq := hq.below hx1 hq.lt
  replace hq' := hq'.below hx1 hq'.lt
  replace hB := hB.trans (hx1.mono hB.size)
  replace hS1 := Lat.seen hS1 hx1
  replace hS3 := Lat.seen hS3 hx1
  replace by2 := by2.nx hx1
  replace by4 := by4.nx hx1
  refine (plain8_any wx1 (oA r) (oH r) (oI r) A1 n1 c1 cs hS1 hn1).mono ?_
  rintro e w5 ⟨v5, rfl, hrow, hb⟩
  obtain ⟨A5, c5, rfl, hS5⟩ := hrow.seenN hl1.out (Nat.zero_le _)
  clear hrow
  replace hS3 := Lat.seen hS3 hb
  replace by2 := by2.nx hb
  replace by4 := by4.nx hb
  refine hKQ.out _ _ hb ?_
  clear hKQ KQ
  replace hf := hf.below hb hf.lt
  replace hf' := hf'.below hb hf'.lt
  replace hq := hq.below hb hq.lt
  replace hq' := hq'.below hb hq'.lt
  replace hB := hB.trans (hb.mono hB.size)
  try simp only [Act.put, List.setIfInBounds_toArray, List.set_cons_zero, List.set_cons_succ]
  clear hb
  (refine lat_late 3 (by rfl) (.bool true) (by kernel_rfl) (fun _ _ _ h => h) (fun wq hSw => ⟨_, _, ?_, (refSame8_any wq (oA r) (oH r) (oI r) A5 n1 c5 cs (oA r) (oH r) (oI r) A3 n3 c3 ds (Lat.seen hS5 hSw) (Lat.seen hS3 hSw) hn1).mono fun e w' hh => ⟨hh.1.trans (ret_bool hsame.out), hh.2⟩⟩) ?_; focus (go_simp; try with_reducible rfl; done); try simp only [Act.put, List.setIfInBounds_toArray, List.set_cons_zero, List.set_cons_succ])
  (refine lat_now 4 (by rfl) ?_ (by kernel_rfl) (fun _ _ _ h => h) ?_ ?_; rotate_left; (focus (intro wq hSw; have hrd : ∀ b o, b < w5.heap.size → wq.cell? ⟨b, o, none⟩ = w5.cell? ⟨b, o, none⟩ := (fun b o h => Below.cell hSw (p := ⟨b, o, none⟩) h); go_simp; try with_reducible rfl; done)); try simp only [Act.put, List.setIfInBounds_toArray, List.set_cons_zero, List.set_cons_succ])
  (refine lat_now 5 (by rfl) ?_ (by kernel_rfl) (fun _ _ _ h => h) ?_ ?_; rotate_left; (focus (intro wq hSw; refine exec_load_blk (x := .tmp 6) ?_ ?_ (hf.below hSw hf.lt) _ Try.underlying31 rfl (by kernel_rfl) <;> rfl)); simp only [Act.put, List.setIfInBounds_toArray, List.set_cons_zero, List.set_cons_succ])
  (refine lat_now 6 (by rfl) ?_ (by kernel_rfl) (fun _ _ _ h => h) ?_ ?_; rotate_left; (focus (intro wq hSw; refine exec_load_blk (x := .tmp 8) ?_ ?_ (hf'.below hSw hf'.lt) _ Try.underlying31 rfl (by kernel_rfl) <;> rfl)); simp only [Act.put, List.setIfInBounds_toArray, List.set_cons_zero, List.set_cons_succ])
  (refine lat_late 7 (by rfl) (.bool true) (by kernel_rfl) (fun _ _ _ h => h) (fun wq hSw => ⟨_, _, ?_, (faults_any wq (fC r) (fS r) A2 n2 c2 (fD r) (fC r) (fS r) A4 n4 c4 (fD r) _ _ (by2.nx hSw) (by4.nx hSw) (Nat.le_refl _) (Nat.le_refl _)).mono fun e w' hh => ⟨hh.1.trans (ret_bool (faultB_refl _ _ _)), hh.2⟩⟩) ?_; focus (go_simp; try with_reducible rfl; done); try simp only [Act.put, List.setIfInBounds_toArray, List.set_cons_zero, List.set_cons_succ])
  (refine lat_now 8 (by rfl) ?_ (by kernel_rfl) (fun _ _ _ h => h) ?_ ?_; rotate_left; (focus (intro wq hSw; have hrd : ∀ b o, b < w5.heap.size → wq.cell? ⟨b, o, none⟩ = w5.cell? ⟨b, o, none⟩ := (fun b o h => Below.cell hSw (p := ⟨b, o, none⟩) h); go_simp; try with_reducible rfl; done)); try simp only [Act.put, List.setIfInBounds_toArray, List.set_cons_zero, List.set_cons_succ])
  (refine lat_now 9 (by rfl) ?_ (by kernel_rfl) (fun _ _ _ h => h) ?_ ?_; rotate_left; (focus (intro wq hSw; have hrd : ∀ b o, b < w5.heap.size → wq.cell? ⟨b, o, none⟩ = w5.cell? ⟨b, o, none⟩ := (fun b o h => Below.cell hSw (p := ⟨b, o, none⟩) h); go_simp; try with_reducible rfl; done)); try simp only [Act.put, List.setIfInBounds_toArray, List.set_cons_zero, List.set_cons_succ])
  (refine lat_late 10 (by rfl) (.bool true) (by kernel_rfl) (fun _ _ _ h => h) (fun wq hSw => ⟨_, _, ?_, lives8_any wq⟩) ?_; focus (go_simp; try with_reducible rfl; done); try simp only [Act.put, List.setIfInBounds_toArray, List.set_cons_zero, List.set_cons_succ])
  (refine lat_now 11 (by rfl) ?_ (by kernel_rfl) (fun _ _ _ h => h) ?_ ?_; rotate_left; (focus (intro wq hSw; have hrd : ∀ b o, b < w5.heap.size → wq.cell? ⟨b, o, none⟩ = w5.cell? ⟨b, o, none⟩ := (fun b o h => Below.cell hSw (p := ⟨b, o, none⟩) h); go_simp; try with_reducible rfl; done)); try simp only [Act.put, List.setIfInBounds_toArray, List.set_cons_zero, List.set_cons_succ])
  (refine lat_now 12 (by rfl) ?_ (by kernel_rfl) (fun _ _ _ h => h) ?_ ?_; rotate_left; (focus (intro wq hSw; have hrd : ∀ b o, b < w5.heap.size → wq.cell? ⟨b, o, none⟩ = w5.cell? ⟨b, o, none⟩ := (fun b o h => Below.cell hSw (p := ⟨b, o, none⟩) h); go_simp; try with_reducible rfl; done)); try simp only [Act.put, List.setIfInBounds_toArray, List.set_cons_zero, List.set_cons_succ])
  refine lat_done (by kernel_rfl) (fun wz hz => ?_) _
  try refine NoPanic.normal ?_
  go_wp2_with fail
  go_ret
  exact ⟨rfl, hB.trans (hz.mono hB.size)⟩
end Go.Proofs.Ytlpplclhjkbjbaa
