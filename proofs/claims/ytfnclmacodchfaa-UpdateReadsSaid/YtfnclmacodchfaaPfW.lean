/- update: what the prefixes of bytes are; prefix.Read. -/
import Derived.Test.YtfnclmacodchfaaPfQ
import Derived.Test.YtfnclmacodchfaaDrawE
namespace Go.Proofs.Ytfnclmacodchfaa
set_option linter.unusedVariables false
open Go Go.RowKit

theorem grown_below {a b c : World} {row : Option Nat} (h : a.grownBy b row) (k : Below a.heap.size b c) : a.grownBy c row :=
  ⟨k.os.trans h.os, k.tape.trans h.tape, k.output.trans h.output, Nat.le_trans h.size k.size, fun i hi hne => (k.block i hi).trans (h.block i hi hne)⟩
/-- elements one behind the other, each read by rd, the source behind it nx; none where one lacks its end. -/
def seqF {D : Type} (rd : St → D) (nx : St → St) : Nat → St → Option (List D)
  | 0, _ => some []
  | n + 1, s => if 0 < leftV s then (if (nx s).e = 0 then (seqF rd nx n (nx s)).map (rd s :: ·) else none) else some []
section
variable {D : Type} {rd : St → D} {nx : St → St} (hless : ∀ s, (nx s).e = 0 → (nx s).l.length < s.l.length)
include hless
theorem seqF_fuel : ∀ (n m : Nat) (s : St), s.l.length < n → s.l.length < m → seqF rd nx n s = seqF rd nx m s
  | 0, _, _, h, _ => absurd h (by omega)
  | _ + 1, 0, _, _, h => absurd h (by omega)
  | n + 1, m + 1, s, h, h' => by
    unfold seqF
    by_cases h0 : 0 < leftV s
    · rw [if_pos h0, if_pos h0]
      by_cases h1 : (nx s).e = 0
      · rw [if_pos h1, if_pos h1]
        have := hless s h1
        rw [seqF_fuel n m (nx s) (by omega) (by omega)]
      · rw [if_neg h1, if_neg h1]
    · rw [if_neg h0, if_neg h0]
end
def seqL {D : Type} (rd : St → D) (nx : St → St) (s : St) : Option (List D) := seqF rd nx (s.l.length + 1) s
section
variable {D : Type} {rd : St → D} {nx : St → St}
theorem seqL_end {s : St} (h : ¬ 0 < leftV s) : seqL rd nx s = some [] := by unfold seqL seqF; rw [if_neg h]
theorem seqL_no {s : St} (h : 0 < leftV s) (h1 : (nx s).e ≠ 0) : seqL rd nx s = none := by unfold seqL seqF; rw [if_pos h, if_neg h1]
theorem seqL_go (hless : ∀ s, (nx s).e = 0 → (nx s).l.length < s.l.length) {s : St} (h : 0 < leftV s) (h1 : (nx s).e = 0) : seqL rd nx s = (seqL rd nx (nx s)).map (rd s :: ·) := by
  have := hless s h1
  have e : seqL rd nx s = (seqF rd nx s.l.length (nx s)).map (rd s :: ·) := by
    have e1 : seqF rd nx (s.l.length + 1) s = if 0 < leftV s then (if (nx s).e = 0 then (seqF rd nx s.l.length (nx s)).map (rd s :: ·) else none) else some [] := rfl
    show seqF rd nx (s.l.length + 1) s = _
    rw [e1, if_pos h, if_pos h1]
  rw [e, seqF_fuel hless s.l.length ((nx s).l.length + 1) (nx s) (by omega) (by omega)]
  rfl
end
theorem left_ok {s : St} (h : 0 < leftV s) : s.e = 0 := by
  by_cases h0 : s.e = 0
  · exact h0
  · unfold leftV at h; rw [if_neg h0] at h; omega
/-- how far a source is from its end, by its cells. -/
def srcFar (w : World) (g : Nat) : Nat := match w.cell? ⟨g, 3, none⟩ with
  | some (.int _ e) => if e = 0 then srcLen w g + 1 else 0
  | _ => 0
theorem Src.far {w : World} {g : Nat} {s : St} (h : Src w g s) : srcFar w g = if s.e = 0 then s.l.length + 1 else 0 := by
  have hl := h.srcLen
  obtain ⟨A, n, c, h1, h2, h3, h4, h5⟩ := h
  unfold srcFar
  rw [h3.cellv 3 (v := .int .i64 s.e) rfl, hl]
/-- one prefix, read. -/
def pdN (s : St) : Int := numV s 1
def pdS1 (s : St) : St := (tk s 1).1
def pdO (s : St) : Int := (octN (pdN s).toNat : Int)
def pdV (s : St) : List UInt8 := (tk (pdS1 s) (pdO s)).2
def pdS2 (s : St) : St := (tk (pdS1 s) (pdO s)).1
def pdA (s : St) : Int := getN (pdV s) 4
def pdP (s : St) : Int × Int := (cutA (pdA s) (pdN s).toNat, pdN s)
/-- the source behind it, as far as it is one. -/
def nxP (s : St) : St := if pdN s ≤ 32 then pdS2 s else ⟨s.l, s.at_, 3⟩
theorem pdN_bd (s : St) : 0 ≤ pdN s ∧ pdN s ≤ 255 := numV_1 s
theorem nxP_less (s : St) (h : (nxP s).e = 0) : (nxP s).l.length < s.l.length := by
  unfold nxP at h ⊢
  by_cases h1 : pdN s ≤ 32
  · rw [if_pos h1] at h ⊢
    have h2 := tk_e _ _ h
    have l1 := tk_lt s 1 h2
    have l2 := tk_le (pdS1 s) (pdO s)
    have e1 : (pdS1 s).l.length + 1 = s.l.length := l1
    have e2 : (pdS2 s).l.length ≤ (pdS1 s).l.length := l2
    omega
  · rw [if_neg h1] at h
    simp at h
def pfsS (s : St) : Option (List (Int × Int)) := seqL pdP nxP s
theorem pfsS_go {s : St} (h : 0 < leftV s) (h1 : (nxP s).e = 0) : pfsS s = (pfsS (nxP s)).map (pdP s :: ·) := seqL_go nxP_less h h1
theorem seqF_len {D : Type} {rd : St → D} {nx : St → St} (hless : ∀ s, (nx s).e = 0 → (nx s).l.length < s.l.length) : ∀ (n : Nat) (s : St) (ds : List D), seqF rd nx n s = some ds → ds.length ≤ s.l.length
  | 0, _, ds, h => by cases h; exact Nat.zero_le _
  | n + 1, s, ds, h => by
    unfold seqF at h
    by_cases h0 : 0 < leftV s
    · rw [if_pos h0] at h
      by_cases h1 : (nx s).e = 0
      · rw [if_pos h1] at h
        have hl := hless s h1
        cases hr : seqF rd nx n (nx s) with
        | none => rw [hr] at h; cases h
        | some d =>
          rw [hr] at h
          cases h
          have := seqF_len hless n (nx s) d hr
          simp only [List.length_cons]
          omega
      · rw [if_neg h1] at h; cases h
    · rw [if_neg h0] at h; cases h; exact Nat.zero_le _
theorem pfsS_len {s : St} {ds : List (Int × Int)} (h : pfsS s = some ds) : ds.length ≤ s.l.length := seqF_len nxP_less _ s ds h
def parseP (l : List UInt8) : Option (List (Int × Int)) := pfsS ⟨l, 0, 0⟩
theorem parseP_len {l : List UInt8} {ds : List (Int × Int)} (h : parseP l = some ds) : ds.length ≤ l.length := pfsS_len h
theorem pdA_bd (s : St) : 0 ≤ pdA s ∧ pdA s ≤ 4294967295 := ⟨getN_lo _ _, getN_4 _ _ (Nat.le_refl _)⟩
theorem pdP_bd (s : St) : 0 ≤ (pdP s).1 ∧ (pdP s).1 ≤ 4294967295 := by
  have := pdA_bd s
  have h := cut_bd (pdA s) (pdN s).toNat this.1
  exact ⟨h.1, Int.le_trans h.2 this.2⟩
/-- what is read: a prefix, and whether. -/
def PdP (w w' : World) (g : Nat) (e : Ending) (s : St) : Prop :=
  if (nxP s).e = 0 then e = .returned (.tuple #[.agg #[.int .u32 (pdP s).1, .int .i64 (pdP s).2], .bool true]) ∧ Src w' g (pdS2 s) else e = .returned (.tuple #[.agg #[.int .u32 0, .int .i64 0], .bool false])
theorem grown_new {a b c : World} {g g2 : Nat} (h : a.grownBy b (some g)) (k : b.grownBy c (some g2)) (hg2 : a.heap.size ≤ g2) : a.grownBy c (some g) :=
  ⟨k.os.trans h.os, k.tape.trans h.tape, k.output.trans h.output, Nat.le_trans h.size k.size, fun i hi hne => (k.block i (Nat.lt_of_lt_of_le hi h.size) (by simp; omega)).trans (h.block i hi hne)⟩
theorem grown_setRow {a w : World} {g : Nat} (h : a.grownBy w (some g)) (cs : Array Value) : a.grownBy (w.setRow g cs) (some g) :=
  ⟨h.os, h.tape, h.output, by simpa [World.setRow] using h.size, fun k hk hne => (setRow_other w g k cs (fun e => hne (by rw [e]))).trans (h.block k hk hne)⟩
/-- copy into a row that is known whole, as one operation; nothing may go over. -/
theorem wp_copy_splice {P : Program} {w : World} {o : Oper} {a : Act} {Q : Exit → Act → World → Prop} {K : Act → World → Prop} (d s : Operand) (dT sT : TypeId)
    (ho : o.op = .call { callee := .builtin .copy, args := #[d, s], argTypes := #[dT, sT] }) (elem : TypeId) (hu : P.underlying dT = some (.slice elem)) (hsz : (P.info? elem).map (·.size) = some 1)
    (dp sp : Option Addr) (dLen dCap sLen sCap : Nat) (hd : a.eval d = .slice dp dLen dCap) (hs : a.eval s = .slice sp sLen sCap)
    (g off : Nat) (cur : List Value) (t : TypeId) (hg : w.heap[g]? = some (.cells cur.toArray t (0, 0))) (cs : List Value) (hn : cs.length = Nat.min sLen dLen)
    (hpos : 0 < cs.length → dp = some ⟨g, off, none⟩ ∧ ∃ ad, sp = some ad ∧ ∀ j v, cs[j]? = some v → w.cell? (ad.add j) = some v)
    (hfit : off + cs.length ≤ cur.length) (h1 : ∀ v ∈ cs, v.oneCell' = true)
    (h : ∀ w', w'.heap[g]? = some (.cells (splice cur off cs).toArray t (0, 0)) → w.grownBy w' (some g) → K (a.put o.dst (goInt cs.length)) w') : Oper.wp P o a w K Q := by
  by_cases h0 : cs.length = 0
  · obtain rfl : cs = [] := List.eq_nil_of_length_eq_zero h0
    have hrun := run_copy_none (P := P) w dT sT o.type elem dp sp dLen dCap sLen sCap hu hsz (by simpa using hn.symm)
    have h2 := h w (show _ = _ by simpa [splice] using hg) (grown_refl _ _)
    unfold Oper.wp
    simp [execOp, ho, resolve, invoke, builtin, hd, hs, hrun, Result.andThen]
    exact h2
  · obtain ⟨rfl, ad, rfl, hsrc⟩ := hpos (by omega)
    refine wp_copy_own d s dT sT ho elem hu hsz g off dLen dCap ad sLen sCap hd hs cur.toArray t hg cs hn hsrc (by simpa using hfit) h1 ?_
    exact h _ (setRow_heap w g _ _ _ _ hg) (grown_setRow (grown_refl _ _) _)
theorem Byt.of_blk {w : World} {g : Nat} {t : TypeId} {l : List UInt8} (h : Blk w g t (bvs l).toArray) : Byt w w.heap.size (some ⟨g, 0, none⟩) l.length l :=
  ⟨rfl, fun _ => ⟨g, 0, rfl, h.lt, fun j hj => by rw [Nat.zero_add]; exact h.cellv j (by simpa using bvs_get l j hj)⟩⟩
/-- four bytes, the lacking ones 0. -/
def padV (v : List UInt8) : List UInt8 := (v ++ [0, 0, 0, 0]).take 4
theorem padV_len (v : List UInt8) : (padV v).length = 4 := by unfold padV; simp
theorem padV_row : ∀ v : List UInt8, v.length ≤ 4 → splice [Value.int .u8 0, .int .u8 0, .int .u8 0, .int .u8 0] 0 (bvs v) = bvs (padV v)
  | [], _ => rfl
  | [_], _ => rfl
  | [_, _], _ => rfl
  | [_, _, _], _ => rfl
  | [_, _, _, _], _ => rfl
  | _ :: _ :: _ :: _ :: _ :: _, h => by simp at h
theorem padV_get : ∀ v : List UInt8, v.length ≤ 4 → getN (padV v) 4 = getN v 4
  | [], _ => rfl
  | [_], _ => rfl
  | [_, _], _ => rfl
  | [_, _, _], _ => rfl
  | [_, _, _, _], _ => rfl
  | _ :: _ :: _ :: _ :: _ :: _, h => by simp at h
set_option maxRecDepth 100000 in
set_option maxHeartbeats 8000000 in
theorem pfRead_any (w : World) (g : Nat) (s : St) (h : Src w g s) : Calls Try.prog 76 #[.pointer (some ⟨g, 0, none⟩)] w fun e w' => w.grownBy w' (some g) ∧ PdP w w' g e s := by
  have hi : (Try.prog.info? 61).map (·.size) = some 2 := by kernel_rfl
  have hlt := h.lt
  have hbd := pdN_bd s
  have hB := (Below.refl w.heap.size w).alloc (Nat.le_refl _) (.cells #[.int .u32 0, .int .i64 0] 61)
  have hr := Blk.new w 61 #[.int .u32 0, .int .i64 0]
  have h1 := h.alloc (.cells #[.int .u32 0, .int .i64 0] 61)
  have hG := grown_of hB (Nat.le_refl _) (some g)
  go_enter Try.func76, Try.ntmps76
  go_upto_region 1 with (fail)
  generalize w.alloc (.cells #[.int .u32 0, .int .i64 0] 61) = w1 at *
  go_wp2_with fail
  refine (u8_any w1 g s h1).mono ?_
  rintro e w2 ⟨rfl, h2, hg2⟩
  have eN : numV s 1 = pdN s := rfl
  have eS : (tk s 1).1 = pdS1 s := rfl
  rw [eN]
  rw [eS] at h2
  replace hr := hr.grown hg2 (by simp; omega)
  replace hG := grown_trans hG hg2
  have lt2 := h2.lt
  have ltr := hr.lt
  clear h1 hg2 eN eS hB
  by_cases h1e : (pdS1 s).e = 0
  rotate_left
  · have hno := Lib.hid (show ¬ (nxP s).e = 0 by
      unfold nxP
      by_cases h9 : pdN s ≤ 32
      · rw [if_pos h9]; exact fun q => h1e (tk_e _ _ q)
      · rw [if_neg h9]; simp)
    have hb : ((pdS1 s).e != 0) = true := by simpa using h1e
    replace h1e := Lib.hid h1e
    go_wp2_with (first
      | (go_at_call 41; refine (err_any w2 g _ h2).mono ?_; rintro e w3 ⟨rfl, rfl⟩)
      | (refine wpList_store_blk rfl hr 61 (.tmp 2) (.tmp 17) rfl rfl rfl rfl hi (by simp [Value.oneCell']) ?_; intro w4 hr4 hg4))
    try rw [Exit.noGoto_ret]
    refine bodyPost_ret (results_ct rfl _ rfl (load_blk hr4 Try.underlying61 rfl hi)) rfl ?_
    refine ⟨grown_new hG hg4 (Nat.le_refl _), ?_⟩
    unfold PdP
    rw [if_neg hno.out]
    rfl
  have hb : ((pdS1 s).e != 0) = false := by simpa using h1e
  by_cases hn : pdN s ≤ 32
  rotate_left
  · have hno := Lib.hid (show ¬ (nxP s).e = 0 by unfold nxP; rw [if_neg hn]; simp)
    have hn2 : 32 < pdN s := by omega
    replace h1e := Lib.hid h1e
    go_wp2_with (first
      | (go_at_call 41; refine (err_any w2 g _ h2).mono ?_; rintro e w3 ⟨rfl, rfl⟩)
      | (refine wpList_store_blk rfl hr 61 (.tmp 2) (.tmp 17) rfl rfl rfl rfl hi (by simp [Value.oneCell']) ?_; intro w4 hr4 hg4))
    try rw [Exit.noGoto_ret]
    refine bodyPost_ret (results_ct rfl _ rfl (load_blk hr4 Try.underlying61 rfl hi)) rfl ?_
    refine ⟨grown_new hG hg4 (Nat.le_refl _), ?_⟩
    unfold PdP
    rw [if_neg hno.out]
    rfl
  replace h1e := Lib.hid h1e
  have hn2 : ¬ 32 < pdN s := by omega
  go_upto_region 5 with (go_at_call 41; refine (err_any w2 g _ h2).mono ?_; rintro e w3 ⟨rfl, rfl⟩)
  have hz2 := hG.size
  have hb2 := (Below.refl w2.heap.size w2).alloc (Nat.le_refl _) (.cells #[.int .u8 0, .int .u8 0, .int .u8 0, .int .u8 0] 135)
  have hr4 := Blk.new w2 135 #[.int .u8 0, .int .u8 0, .int .u8 0, .int .u8 0]
  have h3 := h2.alloc (.cells #[.int .u8 0, .int .u8 0, .int .u8 0, .int .u8 0] 135)
  replace hr := hr.alloc (.cells #[.int .u8 0, .int .u8 0, .int .u8 0, .int .u8 0] 135)
  replace hG := grown_alloc hG (.cells #[.int .u8 0, .int .u8 0, .int .u8 0, .int .u8 0] 135)
  generalize w2.alloc (.cells #[.int .u8 0, .int .u8 0, .int .u8 0, .int .u8 0] 135) = w3 at *
  have eO : (octN (pdN s).toNat : Int) = pdO s := rfl
  have eNN := Lib.hid (show pdN s = ((pdN s).toNat : Int) by omega)
  have lt3 := h3.lt
  have lt4 := hr4.lt
  have lt4' : g < w2.heap.size := lt2
  have hwz : w.heap.size ≤ w2.heap.size := hz2
  -- region 5: 0 1 2 3C 4C 5M
  try refine wp_region_noPanic ?_
  have hs1r : (fun w' => True) w3.drew := trivial
  refine wp_region_held_drew (S := fun w' => True) (by kernel_rfl) hs1r (fun _ => ?_)
  (refine held_takeA 0 (by rfl) ?_ (by kernel_rfl) (fun _ _ _ h => h) hs1r ?_ ?_; rotate_left; (focus (intro wq hSw; have hrd := hSw; go_simp; try with_reducible rfl; done)); try simp only [Act.put, List.setIfInBounds_toArray, List.set_cons_zero, List.set_cons_succ])
  (refine held_takeA 1 (by rfl) ?_ (by kernel_rfl) (fun _ _ _ h => h) hs1r ?_ ?_; rotate_left; (focus (intro wq hSw; have hrd := hSw; go_simp; try with_reducible rfl; done)); try simp only [Act.put, List.setIfInBounds_toArray, List.set_cons_zero, List.set_cons_succ])
  (refine held_takeA 2 (by rfl) ?_ (by kernel_rfl) (fun _ _ _ h => h) hs1r ?_ ?_; rotate_left; (focus (intro wq hSw; have hrd := hSw; go_simp; try with_reducible rfl; done)); try simp only [Act.put, List.setIfInBounds_toArray, List.set_cons_zero, List.set_cons_succ])
  refine held_callA 3 (by rfl) (by kernel_rfl) (by rfl) (fun KQ hKQ => ?_)
  go_simp
  refine ((congrArg (fun z => Calls Try.prog 101 #[.int .i64 z] _ _) eNN.out).mpr (octets_any (pdN s).toNat (by omega) _)).mono ?_
  rintro e w4 ⟨rfl, rfl⟩
  rw [eO]
  have hs2r := trivial
  refine hKQ.out _ _ hs2r ?_
  clear hKQ KQ
  try simp only [Act.put, List.setIfInBounds_toArray, List.set_cons_zero, List.set_cons_succ]
  refine held_callA 4 (by rfl) (by kernel_rfl) (by rfl) (fun KQ hKQ => ?_)
  go_simp
  refine (bytes_any w3.drew g (pdS1 s) h3.drew (pdO s)).mono ?_
  rintro e w5 ⟨v5, rfl, own5, h5, hg5⟩
  have eV : (tk (pdS1 s) (pdO s)).2 = pdV s := rfl
  have eS : (tk (pdS1 s) (pdO s)).1 = pdS2 s := rfl
  rw [eV] at own5
  rw [eS] at h5
  obtain ⟨A5, c5, rfl, hc5, hcm5, by5, hA5⟩ := own5.any2
  have hvl : (pdV s).length ≤ 4 := by
    have h9 := octN_le (pdN s).toNat (by omega)
    rcases tk_len (pdS1 s) (pdO s) with h8 | h8
    · rw [eV] at h8; rw [h8, ← eO]; omega
    · rw [eV] at h8; omega
  replace hr := hr.drew.grown hg5 (by simp; omega)
  replace hr4 := hr4.drew.grown hg5 (by simp; omega)
  replace hG := grown_trans (grown_drew hG) hg5
  clear hg5 eV eS own5 h3
  have hs3r := trivial
  refine hKQ.out _ _ hs3r ?_
  clear hKQ KQ
  try simp only [Act.put, List.setIfInBounds_toArray, List.set_cons_zero, List.set_cons_succ]
  have hmin : (bvs (pdV s)).length = Nat.min (pdV s).length 4 := by rw [bvs_len]; exact (Nat.min_eq_left hvl).symm
  refine held_callA 5 (by rfl) (by kernel_rfl) (by rfl) (fun KQ hKQ => ?_)
  refine wp_copy_splice (.tmp 18) (.tmp 22) 36 36 (by rfl) 5 Try.underlying36 (by kernel_rfl) (some ⟨w2.heap.size, 0, none⟩) A5 4 4 (pdV s).length c5 (by rfl) (by rfl) w2.heap.size 0 [.int .u8 0, .int .u8 0, .int .u8 0, .int .u8 0] 135 hr4 (bvs (pdV s)) hmin (fun hp => ?_) (by rw [bvs_len]; simpa using hvl) (bvs_one _) ?_
  · rw [bvs_len] at hp
    obtain ⟨b, off, rfl, hbl, hc⟩ := by5.2 hp
    refine ⟨rfl, _, rfl, fun j v hj => ?_⟩
    have hjl : j < (pdV s).length := by have := (List.getElem?_eq_some_iff.1 hj).1; rwa [bvs_len] at this
    rw [Go.WideShapes.add_plain, ← hj, bvs_get _ j hjl]
    exact hc j hjl
  intro w6 hr6 hg6
  have h6 := h5.grown hg6 lt4'
  rw [padV_row _ hvl] at hr6
  have by6 := Byt.of_blk (show Blk w6 w2.heap.size 135 (bvs (padV (pdV s))).toArray from hr6)
  rw [padV_len] at by6
  replace hr := hr.grown hg6 (by simp; omega)
  replace hG := grown_new hG hg6 hwz
  clear hr4 hmin by5 hg6 hr6 h5
  have hs4r := trivial
  refine hKQ.out _ _ hs4r ?_
  clear hKQ KQ
  try simp only [Act.put, List.setIfInBounds_toArray, List.set_cons_zero, List.set_cons_succ]
  refine wpAnyH_done (by kernel_rfl) ?_ _
  try refine NoPanic.normal ?_
  have ltr := hr.lt
  by_cases h2e : (pdS2 s).e = 0
  rotate_left
  · have hno := Lib.hid (show ¬ (nxP s).e = 0 by unfold nxP; rw [if_pos hn]; exact h2e)
    have hb : ((pdS2 s).e != 0) = true := by simpa using h2e
    replace h2e := Lib.hid h2e
    go_wp2_with (first
      | (go_at_call 41; refine (err_any w6 g _ h6).mono ?_; rintro e w3 ⟨rfl, rfl⟩)
      | (refine wpList_store_blk rfl hr 61 (.tmp 2) (.tmp 27) rfl rfl rfl rfl hi (by simp [Value.oneCell']) ?_; intro w4 hr4 hg4))
    try rw [Exit.noGoto_ret]
    refine bodyPost_ret (results_ct rfl _ rfl (load_blk hr4 Try.underlying61 rfl hi)) rfl ?_
    refine ⟨grown_new hG hg4 (Nat.le_refl _), ?_⟩
    unfold PdP
    rw [if_neg hno.out]
    rfl
  have hyes := Lib.hid (show (nxP s).e = 0 by unfold nxP; rw [if_pos hn]; exact h2e)
  have hb : ((pdS2 s).e != 0) = false := by simpa using h2e
  replace h2e := Lib.hid h2e
  have eg : getV (padV (pdV s)) 0 4 = pdA s := by
    unfold getV
    rw [padV_len, if_pos (show fitsB 4 0 4 = true from rfl)]
    show getN (padV (pdV s)) 4 = getN (pdV s) 4
    exact padV_get _ hvl
  have ecl : clampN (pdN s) = (pdN s).toNat := by unfold clampN; rw [if_neg (by omega), if_neg (by omega)]
  have eP : pfC (cutA (pdA s) (pdN s).toNat) ((pdN s).toNat : Int) = #[.int .u32 (pdP s).1, .int .i64 (pdP s).2] := by
    unfold pfC pdP
    rw [← eNN.out]
  have hab := pdA_bd s
  have hget := get32_any w6 (some ⟨w2.heap.size, 0, none⟩) 4 4 (padV (pdV s)) w6.heap.size by6 (by omega) (by unfold maxLen; omega) 0 (by omega)
  rw [eg, show fitsB 4 0 4 = true from rfl] at hget
  have hcan := canon_any w6 (pdA s) (pdN s) hab.1 hab.2
  rw [ecl, eP] at hcan
  clear eP ecl eg by6 eO
  go_wp2_with (first
    | (go_at_call 41; refine (err_any w6 g _ h6).mono ?_; rintro e w7 ⟨rfl, rfl⟩)
    | (go_at_call 102; refine hget.mono ?_; rintro e w7 ⟨rfl, rfl⟩)
    | (go_at_call 63; refine hcan.mono ?_; rintro e w8 ⟨rfl, hb8⟩; have hr8 := hr.below hb8 ltr; have h8 := h6.below hb8 h6.lt; have hG8 := grown_trans hG (grown_of hb8 (Nat.le_refl _) _); have lt8 := hr8.lt)
    | (refine wpList_store_blk rfl hr8 61 (.tmp 2) (.tmp 36) rfl rfl rfl rfl hi (by simp [Value.oneCell']) ?_; intro w9 hr9 hg9))
  try rw [Exit.noGoto_ret]
  refine bodyPost_ret (results_ct rfl _ rfl (load_blk hr9 Try.underlying61 rfl hi)) rfl ?_
  refine ⟨grown_new hG8 hg9 (Nat.le_refl _), ?_⟩
  unfold PdP
  rw [if_pos hyes.out]
  exact ⟨rfl, h8.grown hg9 (by omega)⟩
end Go.Proofs.Ytfnclmacodchfaa
