/- attr: AttrReads, the walk. -/
import Derived.Test.YtlpplclhjkbjbaaAuC
import Derived.Test.YtlpplclhjkbjbaaAuD
import Derived.Test.YtlpplclhjkbjbaaAtU
namespace Go.Proofs.Ytlpplclhjkbjbaa
set_option linter.unusedVariables false
open Go.RowKit

/-- what Split answers, by parts. -/
def spC : Option (List RawD) → Int | none => 3 | some _ => 0
def spS : Option (List RawD) → Int | none => 1 | some _ => 0
def spL : Option (List RawD) → List RawD | none => [] | some ds => ds
theorem SplP.all {T : TypeId} {w w' : World} {e : Ending} {r : Option (List RawD)} (h : SplP T w w' e r) :
    ∃ A n c rs, e = .returned (.tuple #[.slice A n c, .agg #[.int .i64 (spC r), .int .i64 (spS r), .slice none 0 0]]) ∧ Seen rawK w' (fun b => b < w'.heap.size) A n rs ∧ rs.map dat = spL r := by
  cases r with
  | none => exact ⟨none, 0, 0, [], h, Seen.none_, rfl⟩
  | some ds =>
    obtain ⟨v, rs, rfl, hrow, hk⟩ := h
    obtain ⟨A, c, rfl, _, _, hS⟩ := hrow.seen (Nat.le_refl _)
    exact ⟨A, _, c, rs, rfl, hS.more fun b hb => hb.2, hk⟩
theorem spL_len (s : St) : (spL (splitL s)).length ≤ s.l.length := by
  cases h : splitL s with
  | none => simp [spL]
  | some ds => exact (splitL_ok h).2
/-- what Parse answers, by parts. -/
def qA : Except (Int × List UInt8) AttV → AttV | .error _ => att0 | .ok a => a
def qC : Except (Int × List UInt8) AttV → Int | .error _ => 3 | .ok _ => 0
def qS : Except (Int × List UInt8) AttV → Int | .error x => x.1 | .ok _ => 0
def qD : Except (Int × List UInt8) AttV → List UInt8 | .error x => x.2 | .ok _ => []
theorem ParseAP.all {w w' : World} {e : Ending} {r : Except (Int × List UInt8) AttV} (hp : ParseAP w w' e r) :
    ∃ A n c A2 n2 c2, e = .returned (.tuple #[.agg #[.int .i64 (qA r).o, .slice A n c, .int .u32 (qA r).h, .int .i64 (qA r).m, .bool (qA r).b], .agg #[.int .i64 (qC r), .int .i64 (qS r), .slice A2 n2 c2]]) ∧
      Nums .i64 w' w'.heap.size A n (qA r).zs ∧ Byt w' w'.heap.size A2 n2 (qD r) := by
  cases r with
  | error x =>
    obtain ⟨v, rfl, own⟩ := hp
    obtain ⟨A2, c2, rfl, _, _, by2, _⟩ := own.any2
    exact ⟨none, 0, 0, A2, _, c2, rfl, ⟨rfl, by simp [qA, att0], fun h => absurd h (by omega)⟩, by2⟩
  | ok a =>
    obtain ⟨A, n, c, rfl, hS⟩ := hp
    exact ⟨A, n, c, none, 0, 0, rfl, (hS.more fun b hb => hb.2).nums, Byt.none_⟩
theorem faultC_refl (a s : Int) (d : List UInt8) : faultC a s d a s d = true := by simp [faultC]
theorem rawsEq_of {cs ds : List RawV} (h : cs.map dat = ds.map dat) : rawsEq cs ds = true := by unfold rawsEq; rw [h]; simp
theorem Rows.seenR {w : World} {lo base : Nat} {et : TypeId} {v : Value} {rs : List RawV} {n : Nat} (h : Rows rawK w lo base et v rs) (hn : rs.length = n) (hlb : lo ≤ base) : ∃ A c, v = .slice A n c ∧ Seen rawK w (fun b => b < w.heap.size) A n rs := by
  obtain ⟨A, c, e, _, _, h2⟩ := h.seen hlb
  rw [hn] at e h2
  exact ⟨A, c, e, h2.more fun b hb => hb.2⟩
theorem innF_len (f : St → List Int → Option (List Int)) (hf : ∀ s l r, l.length ≤ 16 → f s l = some r → r.length ≤ 16) : ∀ (m : Nat) (s : St) (l r : List Int), l.length ≤ 16 → innF f m s l = some r → r.length ≤ 16
  | 0, s, l, r, hl, h => hf s l r hl h
  | m + 1, s, l, r, hl, h => by
    unfold innF at h
    split at h
    · cases h
    · rename_i h1
      exact innF_len f hf m _ _ r (by simp; omega) h
theorem pathF_len : ∀ (n : Nat) (s : St) (l r : List Int), l.length ≤ 16 → pathF n s l = some r → r.length ≤ 16
  | 0, s, l, r, hl, h => by unfold pathF at h; cases h; exact hl
  | n + 1, s, l, r, hl, h => by
    unfold pathF at h
    split at h
    · split at h
      · cases h
      · exact innF_len (pathF n) (fun s l r hl h => pathF_len n s l r hl h) _ _ _ r hl h
    · cases h; exact hl
theorem takeS_len {a a' : AttV} {f t : Int} {v : List UInt8} (h : takeS a f t v = .ok a') (hl : a.zs.length ≤ 16) : a'.zs.length ≤ 16 := by
  unfold takeS at h
  repeat' split at h
  all_goals first | (cases h; exact hl) | (cases h; done) | skip
  rename_i zs hp
  cases h
  exact pathF_len _ _ _ _ (by simp) hp
theorem parseG_len : ∀ (ds : List RawD) (ts : List Int) (a a' : AttV), parseG ds ts a = .ok a' → a.zs.length ≤ 16 → a'.zs.length ≤ 16
  | [], ts, a, a', h, hl => by
    unfold parseG at h
    repeat' split at h
    all_goals first | (cases h; exact hl) | (cases h; done)
  | d :: ds, ts, a, a', h, hl => by
    unfold parseG at h
    split at h
    · cases h
    · split at h
      · cases h
      · rename_i b hb
        exact parseG_len ds _ b a' h (takeS_len hb hl)
theorem qA_len (l : List UInt8) : (qA (parseA l)).zs.length ≤ 16 := by
  cases h : parseA l with
  | error x => simp [qA, att0]
  | ok a =>
    unfold parseA at h
    split at h
    · cases h
    · exact parseG_len _ _ _ _ h (by simp [att0])
set_option maxRecDepth 100000 in
set_option maxHeartbeats 8000000 in
theorem reads7_walk (A : Option Addr) (n c : Nat) (l : List UInt8) (w : World) (_ : n ≤ c) (_ : c ≤ maxLen) (h : Byt w w.heap.size A n l) :
    Calls Try.prog 4 #[.slice A n c] w fun e w' => e = .returned (.bool true) ∧ Below w.heap.size w w' := by
  have hll := h.1
  have hB := Below.refl w.heap.size w
  go_enter Try.func4, Try.ntmps4
  by_cases hn : n ≤ 3000
  rotate_left
  · have d1 : (3000 : Int) < n := by omega
    replace hll := Lib.hid hll
    go_wp2_with fail
    refine (lives7_any _).mono ?_
    rintro e w2 ⟨rfl, hb⟩
    go_wp2_with fail
    go_ret
    exact ⟨rfl, hb⟩
  have d1 : (n : Int) ≤ 3000 := by omega
  have hsl : (spL (splitL ⟨l, 0, 0⟩)).length ≤ 3000 := by have := spL_len ⟨l, 0, 0⟩; have e : (⟨l, 0, 0⟩ : St).l.length = l.length := rfl; omega
  replace hll := Lib.hid hll
  go_wp2_with fail
  refine (split_any w A n c l h (by omega)).mono ?_
  rintro e v1 ⟨hb, hP⟩
  obtain ⟨A1, n1, c1, r1, rfl, hS1, hk1⟩ := hP.all
  clear hP
  replace h := h.nx hb
  replace hB := hB.trans (hb.mono hB.size)
  obtain ⟨rs, hrs⟩ : ∃ rs, rs = splitL ⟨l, 0, 0⟩ := ⟨_, rfl⟩
  rw [← hrs] at hk1 hsl ⊢
  replace hrs := Lib.hid hrs
  have hf1 := Blk.new v1 31 #[.int .i64 (spC rs), .int .i64 (spS rs), .slice none 0 0]
  have hba := (Below.refl v1.heap.size v1).alloc (Nat.le_refl _) (.cells #[.int .i64 (spC rs), .int .i64 (spS rs), .slice none 0 0] 31)
  clear hb
  replace h := h.nx hba
  replace hS1 := raw_up hS1 hba
  replace hB := hB.trans (hba.mono hB.size)
  clear hba
  go_upto_region 4 with (fail)
  generalize v1.alloc (.cells #[.int .i64 (spC rs), .int .i64 (spS rs), .slice none 0 0] 31) = u1 at *
  generalize v1.heap.size = g1 at *
  go_wp2_with fail
  refine (refSplit_any u1 A n c l h (by omega)).mono ?_
  rintro e v2 ⟨hb, hP⟩
  obtain ⟨A2, n2, c2, r2, rfl, hS2, hk2⟩ := hP.all
  clear hP
  replace hf1 := hf1.below hb hf1.lt
  replace h := h.nx hb
  replace hS1 := raw_up hS1 hb
  replace hB := hB.trans (hb.mono hB.size)
  rw [← hrs.out] at hk2 ⊢
  have hf2 := Blk.new v2 31 #[.int .i64 (spC rs), .int .i64 (spS rs), .slice none 0 0]
  have hba := (Below.refl v2.heap.size v2).alloc (Nat.le_refl _) (.cells #[.int .i64 (spC rs), .int .i64 (spS rs), .slice none 0 0] 31)
  clear hb
  replace hf1 := hf1.below hba hf1.lt
  replace h := h.nx hba
  replace hS1 := raw_up hS1 hba
  replace hS2 := raw_up hS2 hba
  replace hB := hB.trans (hba.mono hB.size)
  clear hba
  go_upto_region 5 with (fail)
  generalize v2.alloc (.cells #[.int .i64 (spC rs), .int .i64 (spS rs), .slice none 0 0] 31) = u2 at *
  generalize v2.heap.size = g2 at *
  go_wp2_with fail
  refine (attrParse_any u2 A n c l h (by omega)).mono ?_
  rintro e v3 ⟨hb, hP⟩
  obtain ⟨A3, n3, c3, X3, m3, d3, rfl, hN3, hD3⟩ := hP.all
  clear hP
  replace hf1 := hf1.below hb hf1.lt
  replace hf2 := hf2.below hb hf2.lt
  replace h := h.nx hb
  replace hS1 := raw_up hS1 hb
  replace hS2 := raw_up hS2 hb
  replace hB := hB.trans (hb.mono hB.size)
  obtain ⟨r, hr⟩ : ∃ r, r = parseA l := ⟨_, rfl⟩
  rw [← hr] at hN3 hD3 ⊢
  replace hr := Lib.hid hr
  have hx3 := (Blk.new v3 39 #[.int .i64 (qA r).o, .slice A3 n3 c3, .int .u32 (qA r).h, .int .i64 (qA r).m, .bool (qA r).b]).alloc (.cells #[.int .i64 (qC r), .int .i64 (qS r), .slice X3 m3 d3] 31)
  have hf3 : Blk ((v3.alloc (.cells #[.int .i64 (qA r).o, .slice A3 n3 c3, .int .u32 (qA r).h, .int .i64 (qA r).m, .bool (qA r).b] 39)).alloc (.cells #[.int .i64 (qC r), .int .i64 (qS r), .slice X3 m3 d3] 31)) (v3.heap.size + 1) 31 #[.int .i64 (qC r), .int .i64 (qS r), .slice X3 m3 d3] := by
    have := Blk.new (v3.alloc (.cells #[.int .i64 (qA r).o, .slice A3 n3 c3, .int .u32 (qA r).h, .int .i64 (qA r).m, .bool (qA r).b] 39)) 31 #[.int .i64 (qC r), .int .i64 (qS r), .slice X3 m3 d3]
    simpa using this
  have hba := ((Below.refl v3.heap.size v3).alloc (Nat.le_refl _) (.cells #[.int .i64 (qA r).o, .slice A3 n3 c3, .int .u32 (qA r).h, .int .i64 (qA r).m, .bool (qA r).b] 39)).alloc (by simp) (.cells #[.int .i64 (qC r), .int .i64 (qS r), .slice X3 m3 d3] 31)
  clear hb
  replace hf1 := hf1.below hba hf1.lt
  replace hf2 := hf2.below hba hf2.lt
  replace hN3 := hN3.nx hba
  replace h := h.nx hba
  replace hD3 := hD3.nx hba
  replace hS1 := raw_up hS1 hba
  replace hS2 := raw_up hS2 hba
  replace hB := hB.trans (hba.mono hB.size)
  clear hba
  go_upto_region 6 with (fail)
  generalize (v3.alloc (.cells #[.int .i64 (qA r).o, .slice A3 n3 c3, .int .u32 (qA r).h, .int .i64 (qA r).m, .bool (qA r).b] 39)).alloc (.cells #[.int .i64 (qC r), .int .i64 (qS r), .slice X3 m3 d3] 31) = u3 at *
  generalize v3.heap.size = g3 at *
  go_wp2_with fail
  refine (refParse7_any u3 A n c l h (by omega)).mono ?_
  rintro e v4 ⟨hb, hP⟩
  obtain ⟨A4, n4, c4, X4, m4, d4, rfl, hN4, hD4⟩ := hP.all
  clear hP
  replace hf1 := hf1.below hb hf1.lt
  replace hf2 := hf2.below hb hf2.lt
  replace hx3 := hx3.below hb hx3.lt
  replace hf3 := hf3.below hb hf3.lt
  replace hN3 := hN3.nx hb
  replace h := h.nx hb
  replace hD3 := hD3.nx hb
  replace hS1 := raw_up hS1 hb
  replace hS2 := raw_up hS2 hb
  replace hB := hB.trans (hb.mono hB.size)
  rw [← hr.out] at hN4 hD4 ⊢
  have hx4 := (Blk.new v4 42 #[.int .i64 (qA r).o, .slice A4 n4 c4, .int .u32 (qA r).h, .int .i64 (qA r).m, .bool (qA r).b]).alloc (.cells #[.int .i64 (qC r), .int .i64 (qS r), .slice X4 m4 d4] 31)
  have hf4 : Blk ((v4.alloc (.cells #[.int .i64 (qA r).o, .slice A4 n4 c4, .int .u32 (qA r).h, .int .i64 (qA r).m, .bool (qA r).b] 42)).alloc (.cells #[.int .i64 (qC r), .int .i64 (qS r), .slice X4 m4 d4] 31)) (v4.heap.size + 1) 31 #[.int .i64 (qC r), .int .i64 (qS r), .slice X4 m4 d4] := by
    have := Blk.new (v4.alloc (.cells #[.int .i64 (qA r).o, .slice A4 n4 c4, .int .u32 (qA r).h, .int .i64 (qA r).m, .bool (qA r).b] 42)) 31 #[.int .i64 (qC r), .int .i64 (qS r), .slice X4 m4 d4]
    simpa using this
  have hba := ((Below.refl v4.heap.size v4).alloc (Nat.le_refl _) (.cells #[.int .i64 (qA r).o, .slice A4 n4 c4, .int .u32 (qA r).h, .int .i64 (qA r).m, .bool (qA r).b] 42)).alloc (by simp) (.cells #[.int .i64 (qC r), .int .i64 (qS r), .slice X4 m4 d4] 31)
  clear hb
  replace hf1 := hf1.below hba hf1.lt
  replace hf2 := hf2.below hba hf2.lt
  replace hx3 := hx3.below hba hx3.lt
  replace hf3 := hf3.below hba hf3.lt
  replace hN3 := hN3.nx hba
  replace hN4 := hN4.nx hba
  replace h := h.nx hba
  replace hD3 := hD3.nx hba
  replace hD4 := hD4.nx hba
  replace hS1 := raw_up hS1 hba
  replace hS2 := raw_up hS2 hba
  replace hB := hB.trans (hba.mono hB.size)
  clear hba
  go_upto_region 7 with (fail)
  generalize (v4.alloc (.cells #[.int .i64 (qA r).o, .slice A4 n4 c4, .int .u32 (qA r).h, .int .i64 (qA r).m, .bool (qA r).b] 42)).alloc (.cells #[.int .i64 (qC r), .int .i64 (qS r), .slice X4 m4 d4] 31) = u4 at *
  generalize v4.heap.size = g4 at *
  clear h
  have hn1 : n1 ≤ 3000 := by
    have e1 := hS1.1
    have e2 : r1.length = (spL rs).length := by rw [← hk1, List.length_map]
    omega
  have hl1 := Lib.hid hS1.1
  have hreq := Lib.hid (hk1.trans hk2.symm)
  clear hk1 hk2 hsl
  go_wp2_with fail
  refine (plain7_any u4 A1 n1 c1 r1 hS1 (by omega)).mono ?_
  rintro e w5 ⟨v5, rfl, hrow, hb⟩
  obtain ⟨A5, c5, rfl, hS5⟩ := hrow.seenR hl1.out (Nat.zero_le _)
  clear hrow
  clear hS1
  replace hf1 := hf1.below hb hf1.lt
  replace hf2 := hf2.below hb hf2.lt
  replace hx3 := hx3.below hb hx3.lt
  replace hf3 := hf3.below hb hf3.lt
  replace hx4 := hx4.below hb hx4.lt
  replace hf4 := hf4.below hb hf4.lt
  replace hN3 := hN3.nx hb
  replace hN4 := hN4.nx hb
  replace hD3 := hD3.nx hb
  replace hD4 := hD4.nx hb
  replace hS2 := raw_up hS2 hb
  replace hB := hB.trans (hb.mono hB.size)
  have lt_hf1 := hf1.lt
  have c0_hf1 : w5.cell? ⟨g1, 0, none⟩ = some (.int .i64 (spC rs)) := hf1.cellv 0 rfl
  have c1_hf1 : w5.cell? ⟨g1, 1, none⟩ = some (.int .i64 (spS rs)) := hf1.cellv 1 rfl
  have c2_hf1 : w5.cell? ⟨g1, 2, none⟩ = some (.slice none 0 0) := hf1.cellv 2 rfl
  have lt_hf2 := hf2.lt
  have c0_hf2 : w5.cell? ⟨g2, 0, none⟩ = some (.int .i64 (spC rs)) := hf2.cellv 0 rfl
  have c1_hf2 : w5.cell? ⟨g2, 1, none⟩ = some (.int .i64 (spS rs)) := hf2.cellv 1 rfl
  have c2_hf2 : w5.cell? ⟨g2, 2, none⟩ = some (.slice none 0 0) := hf2.cellv 2 rfl
  clear hb
  go_wp2_with fail
  refine (refRaws_any w5 A5 n1 c5 r1 A2 n2 c2 r2 hS5 hS2 (by omega)).mono ?_
  rintro e w6 ⟨rfl, hb⟩
  rw [rawsEq_of hreq.out]
  clear hS5 hS2
  clear lt_hf1 c0_hf1 c1_hf1 c2_hf1
  clear lt_hf2 c0_hf2 c1_hf2 c2_hf2
  replace hf1 := hf1.below hb hf1.lt
  replace hf2 := hf2.below hb hf2.lt
  replace hx3 := hx3.below hb hx3.lt
  replace hf3 := hf3.below hb hf3.lt
  replace hx4 := hx4.below hb hx4.lt
  replace hf4 := hf4.below hb hf4.lt
  replace hN3 := hN3.nx hb
  replace hN4 := hN4.nx hb
  replace hD3 := hD3.nx hb
  replace hD4 := hD4.nx hb
  replace hB := hB.trans (hb.mono hB.size)
  have lt_hf1 := hf1.lt
  have c0_hf1 : w6.cell? ⟨g1, 0, none⟩ = some (.int .i64 (spC rs)) := hf1.cellv 0 rfl
  have c1_hf1 : w6.cell? ⟨g1, 1, none⟩ = some (.int .i64 (spS rs)) := hf1.cellv 1 rfl
  have c2_hf1 : w6.cell? ⟨g1, 2, none⟩ = some (.slice none 0 0) := hf1.cellv 2 rfl
  have lt_hf2 := hf2.lt
  have c0_hf2 : w6.cell? ⟨g2, 0, none⟩ = some (.int .i64 (spC rs)) := hf2.cellv 0 rfl
  have c1_hf2 : w6.cell? ⟨g2, 1, none⟩ = some (.int .i64 (spS rs)) := hf2.cellv 1 rfl
  have c2_hf2 : w6.cell? ⟨g2, 2, none⟩ = some (.slice none 0 0) := hf2.cellv 2 rfl
  clear hb
  go_wp2_with fail
  refine (faults7_any w6 (spC rs) (spS rs) none 0 0 [] (spC rs) (spS rs) none 0 0 [] 0 0 (byt_empty _ _ _) (byt_empty _ _ _) (Nat.zero_le _) (Nat.zero_le _)).mono ?_
  rintro e w7 ⟨rfl, hb⟩
  rw [faultC_refl]
  clear lt_hf1 c0_hf1 c1_hf1 c2_hf1
  clear lt_hf2 c0_hf2 c1_hf2 c2_hf2
  replace hf1 := hf1.below hb hf1.lt
  replace hf2 := hf2.below hb hf2.lt
  replace hx3 := hx3.below hb hx3.lt
  replace hf3 := hf3.below hb hf3.lt
  replace hx4 := hx4.below hb hx4.lt
  replace hf4 := hf4.below hb hf4.lt
  replace hN3 := hN3.nx hb
  replace hN4 := hN4.nx hb
  replace hD3 := hD3.nx hb
  replace hD4 := hD4.nx hb
  replace hB := hB.trans (hb.mono hB.size)
  have lt_hx3 := hx3.lt
  have c0_hx3 : w7.cell? ⟨g3, 0, none⟩ = some (.int .i64 (qA r).o) := hx3.cellv 0 rfl
  have c1_hx3 : w7.cell? ⟨g3, 1, none⟩ = some (.slice A3 n3 c3) := hx3.cellv 1 rfl
  have c2_hx3 : w7.cell? ⟨g3, 2, none⟩ = some (.int .u32 (qA r).h) := hx3.cellv 2 rfl
  have c3_hx3 : w7.cell? ⟨g3, 3, none⟩ = some (.int .i64 (qA r).m) := hx3.cellv 3 rfl
  have c4_hx3 : w7.cell? ⟨g3, 4, none⟩ = some (.bool (qA r).b) := hx3.cellv 4 rfl
  have lt_hx4 := hx4.lt
  have c0_hx4 : w7.cell? ⟨g4, 0, none⟩ = some (.int .i64 (qA r).o) := hx4.cellv 0 rfl
  have c1_hx4 : w7.cell? ⟨g4, 1, none⟩ = some (.slice A4 n4 c4) := hx4.cellv 1 rfl
  have c2_hx4 : w7.cell? ⟨g4, 2, none⟩ = some (.int .u32 (qA r).h) := hx4.cellv 2 rfl
  have c3_hx4 : w7.cell? ⟨g4, 3, none⟩ = some (.int .i64 (qA r).m) := hx4.cellv 3 rfl
  have c4_hx4 : w7.cell? ⟨g4, 4, none⟩ = some (.bool (qA r).b) := hx4.cellv 4 rfl
  clear hb
  go_wp2_with fail
  have hn3x : n3 ≤ 100000 := by have e1 := hN3.1; have e2 := qA_len l; rw [← hr.out] at e2; omega
  refine (refSame7_any w7 (qA r).o A3 n3 c3 (qA r).zs (qA r).h (qA r).m (qA r).b (qA r).o A4 n4 c4 (qA r).zs (qA r).h (qA r).m (qA r).b hN3 hN4 hn3x).mono ?_
  rintro e w8 ⟨rfl, hb⟩
  rw [sameA_refl]
  clear lt_hx3 c0_hx3 c1_hx3 c2_hx3 c3_hx3 c4_hx3
  clear lt_hx4 c0_hx4 c1_hx4 c2_hx4 c3_hx4 c4_hx4
  replace hf1 := hf1.below hb hf1.lt
  replace hf2 := hf2.below hb hf2.lt
  replace hx3 := hx3.below hb hx3.lt
  replace hf3 := hf3.below hb hf3.lt
  replace hx4 := hx4.below hb hx4.lt
  replace hf4 := hf4.below hb hf4.lt
  replace hN3 := hN3.nx hb
  replace hN4 := hN4.nx hb
  replace hD3 := hD3.nx hb
  replace hD4 := hD4.nx hb
  replace hB := hB.trans (hb.mono hB.size)
  have lt_hf3 := hf3.lt
  have c0_hf3 : w8.cell? ⟨(g3 + 1), 0, none⟩ = some (.int .i64 (qC r)) := hf3.cellv 0 rfl
  have c1_hf3 : w8.cell? ⟨(g3 + 1), 1, none⟩ = some (.int .i64 (qS r)) := hf3.cellv 1 rfl
  have c2_hf3 : w8.cell? ⟨(g3 + 1), 2, none⟩ = some (.slice X3 m3 d3) := hf3.cellv 2 rfl
  have lt_hf4 := hf4.lt
  have c0_hf4 : w8.cell? ⟨(g4 + 1), 0, none⟩ = some (.int .i64 (qC r)) := hf4.cellv 0 rfl
  have c1_hf4 : w8.cell? ⟨(g4 + 1), 1, none⟩ = some (.int .i64 (qS r)) := hf4.cellv 1 rfl
  have c2_hf4 : w8.cell? ⟨(g4 + 1), 2, none⟩ = some (.slice X4 m4 d4) := hf4.cellv 2 rfl
  clear hb
  go_wp2_with fail
  refine (faults7_any w8 (qC r) (qS r) X3 m3 d3 (qD r) (qC r) (qS r) X4 m4 d4 (qD r) _ _ hD3 hD4 (Nat.le_refl _) (Nat.le_refl _)).mono ?_
  rintro e w9 ⟨rfl, hb⟩
  rw [faultC_refl]
  replace hB := hB.trans (hb.mono hB.size)
  go_wp2_with fail
  refine (lives7_any w9).mono ?_
  rintro e wl ⟨rfl, hbl⟩
  go_wp2_with fail
  go_ret
  exact ⟨rfl, hB.trans (hbl.mono hB.size)⟩
end Go.Proofs.Ytlpplclhjkbjbaa
