/- flows: All. -/
import Derived.Test.YtejgekoinbdhjaaFlI
import Derived.Test.YtejgekoinbdhjaaRowO
import Derived.LaidEql
import Derived.Deep.LoopGhost
namespace Go.Proofs.Ytejgekoinbdhjaa
set_option linter.unusedVariables false
open Go Go.RowKit Go.Maps

def enK : RK EnV where
  size := 7
  cel x := [.int .i64 x.fl.pr, .int .u32 x.fl.src, .int .u32 x.fl.dst, .int .i64 x.fl.sp, .int .i64 x.fl.dp, .int .i64 x.be, .int .i64 x.la]
  ok _ _ _ := True
  pos := by omega
  len _ := rfl
  one _ u hu := by simp at hu; rcases hu with rfl | rfl | rfl | rfl | rfl | rfl | rfl <;> rfl
  keep _ _ := trivial
  more _ _ := trivial
theorem en_ok : ElemOk Try.prog 65 62 enK.size 48 (enA ze) := ⟨Try.underlying65, by kernel_rfl, rfl, enK.pos⟩
theorem neq_same {w : World} (a : Nat) : (binOp .neq 74 (.pointer (some ⟨a, 0, none⟩)) (.pointer (some ⟨a, 0, none⟩))).run Try.prog w = .ok (.bool false) w := by
  have hte : ∃ j, Try.prog.info? 177 = some j ∧ j.size ≠ 0 := by
    have : (Try.prog.info? 177).map (·.size) = some 9 := by kernel_rfl
    cases h : Try.prog.info? 177 with
    | none => rw [h] at this; cases this
    | some j => rw [h] at this; simp at this; exact ⟨j, rfl, by omega⟩
  obtain ⟨j, hj, _⟩ := hte
  have h : ∀ d : Nat, (Op.equalIn (d + 1) 74 (.pointer (some ⟨a, 0, none⟩)) (.pointer (some ⟨a, 0, none⟩))).run Try.prog w = .ok true w := fun d => by
    simp [Op.equalIn, run_underlying Try.underlying74, sizeOf, typeInfo, hj, run_sameAddr_same]
  simp only [binOp]
  simp [Op.equal, Op.maxDepth, h 9999]
theorem neq_other {w : World} {a b : Nat} {ca cb : Array Value} (ha : Blk w a 177 ca) (hb : Blk w b 177 cb) (hne : a ≠ b) : (binOp .neq 74 (.pointer (some ⟨a, 0, none⟩)) (.pointer (some ⟨b, 0, none⟩))).run Try.prog w = .ok (.bool true) w := by
  have hte : ∃ j, Try.prog.info? 177 = some j ∧ j.size ≠ 0 := by
    have : (Try.prog.info? 177).map (·.size) = some 9 := by kernel_rfl
    cases h : Try.prog.info? 177 with
    | none => rw [h] at this; cases this
    | some j => rw [h] at this; simp at this; exact ⟨j, rfl, by omega⟩
  obtain ⟨j, hj, hsz⟩ := hte
  have hab : (⟨a, 0, none⟩ : Addr) ≠ ⟨b, 0, none⟩ := fun e => hne (by injection e)
  have h : ∀ d : Nat, (Op.equalIn (d + 1) 74 (.pointer (some ⟨a, 0, none⟩)) (.pointer (some ⟨b, 0, none⟩))).run Try.prog w = .ok false w := fun d => by
    simp [Op.equalIn, run_underlying Try.underlying74, sizeOf, typeInfo, hj, hsz, run_sameAddr_other w hab ha hb]
  simp only [binOp]
  simp [Op.equal, Op.maxDepth, h 9999]
set_option maxRecDepth 100000 in
set_option maxHeartbeats 4000000 in
theorem allStep (w w0 : World) (k ob : Nat) (x : EnV) (b n : Nat) (v : Value) (L : List EnV) (hk : Blk w k 177 (lnkC x b n)) (hob : Blk w ob 65 #[v]) (hrow : Rows enK w w0.heap.size w0.heap.size 62 v L) (hbase : w0.heap.size ≤ w.heap.size) (hk0 : k < w0.heap.size) (hob0 : w0.heap.size ≤ ob) (hvo : v.ownBlock ≠ some ob) (hL : L.length ≤ 1000000) :
    Calls Try.prog 123 #[.pointer (some ⟨k, 0, none⟩), .pointer (some ⟨ob, 0, none⟩)] w fun e w' => e = .returned (.bool true) ∧ ∃ v', Blk w' ob 65 #[v'] ∧ Rows enK w' w0.heap.size w0.heap.size 62 v' (L ++ [x]) ∧ v'.ownBlock ≠ some ob ∧ Chg w w' (fun k => w0.heap.size ≤ k) := by
  have c0 : w.cell? ⟨ob, 0, none⟩ = some v := hob.cellv 0 rfl
  have x0 : w.cell? ⟨k, 0, none⟩ = some (.int .i64 x.fl.pr) := hk.cellv 0 rfl
  have x1 : w.cell? ⟨k, 1, none⟩ = some (.int .u32 x.fl.src) := hk.cellv 1 rfl
  have x2 : w.cell? ⟨k, 2, none⟩ = some (.int .u32 x.fl.dst) := hk.cellv 2 rfl
  have x3 : w.cell? ⟨k, 3, none⟩ = some (.int .i64 x.fl.sp) := hk.cellv 3 rfl
  have x4 : w.cell? ⟨k, 4, none⟩ = some (.int .i64 x.fl.dp) := hk.cellv 4 rfl
  have x5 : w.cell? ⟨k, 5, none⟩ = some (.int .i64 x.be) := hk.cellv 5 rfl
  have x6 : w.cell? ⟨k, 6, none⟩ = some (.int .i64 x.la) := hk.cellv 6 rfl
  have ltk := hk.lt
  have lto := hob.lt
  have hvk : v.ownBlock ≠ some k := fun e => by have := (hrow.1.lt k e).1; omega
  go_enter Try.func123, Try.ntmps123
  go_upto_region 1 with (fail)
  -- region 1: 0 1 2 3 4 5M 6M 7M
  try refine wp_region_noPanic ?_
  have hs1r : (fun w' => w.grownBy w' v.ownBlock) w.drew := grown_drew (grown_refl _ _)
  refine wp_region_E 7 (S := fun w' => w.grownBy w' v.ownBlock) (by kernel_rfl) hs1r (fun _ => ?_)
  (refine e_takeA 0 (by rfl) ?_ (by kernel_rfl) (fun _ _ _ h => h) hs1r ?_ ?_; rotate_left; (focus (intro wq hSw; have hrd := hSw; have hrd2 : ∀ b' o, b' < w.heap.size → v.ownBlock ≠ some b' → wq.cell? ⟨b', o, none⟩ = w.cell? ⟨b', o, none⟩ := (fun b' o h hne => grown_cellO hSw h hne); go_simp; try with_reducible rfl; done)); try simp only [Act.put, List.setIfInBounds_toArray, List.set_cons_zero, List.set_cons_succ])
  (refine e_takeA 1 (by rfl) ?_ (by kernel_rfl) (fun _ _ _ h => h) hs1r ?_ ?_; rotate_left; (focus (intro wq hSw; have hrd := hSw; have hrd2 : ∀ b' o, b' < w.heap.size → v.ownBlock ≠ some b' → wq.cell? ⟨b', o, none⟩ = w.cell? ⟨b', o, none⟩ := (fun b' o h hne => grown_cellO hSw h hne); go_simp; try with_reducible rfl; done)); try simp only [Act.put, List.setIfInBounds_toArray, List.set_cons_zero, List.set_cons_succ])
  (refine e_takeA 2 (by rfl) ?_ (by kernel_rfl) (fun _ _ _ h => h) hs1r ?_ ?_; rotate_left; (focus (intro wq hSw; have hrd := hSw; have hrd2 : ∀ b' o, b' < w.heap.size → v.ownBlock ≠ some b' → wq.cell? ⟨b', o, none⟩ = w.cell? ⟨b', o, none⟩ := (fun b' o h hne => grown_cellO hSw h hne); go_simp; try with_reducible rfl; done)); try simp only [Act.put, List.setIfInBounds_toArray, List.set_cons_zero, List.set_cons_succ])
  (refine e_takeA 3 (by rfl) ?_ (by kernel_rfl) (fun _ _ _ h => h) hs1r ?_ ?_; rotate_left; (focus (intro wq hSw; have hrd := hSw; have hrd2 : ∀ b' o, b' < w.heap.size → v.ownBlock ≠ some b' → wq.cell? ⟨b', o, none⟩ = w.cell? ⟨b', o, none⟩ := (fun b' o h hne => grown_cellO hSw h hne); go_simp; try with_reducible rfl; done)); try simp only [Act.put, List.setIfInBounds_toArray, List.set_cons_zero, List.set_cons_succ])
  (refine e_takeA 4 (by rfl) ?_ (by kernel_rfl) (fun _ _ _ h => h) hs1r ?_ ?_; rotate_left; (focus (intro wq hSw; have hrd := hSw; have hrd2 : ∀ b' o, b' < w.heap.size → v.ownBlock ≠ some b' → wq.cell? ⟨b', o, none⟩ = w.cell? ⟨b', o, none⟩ := (fun b' o h hne => grown_cellO hSw h hne); go_simp; try with_reducible rfl; done)); try simp only [Act.put, List.setIfInBounds_toArray, List.set_cons_zero, List.set_cons_succ])
  refine e_callA 5 (by rfl) (by kernel_rfl) (by rfl) (fun KQ hKQ => ?_)
  go_simp
  have hb5 : Below w.heap.size w (w.drew.alloc (.cells #[.int .i64 (x).fl.pr, .int .u32 (x).fl.src, .int .u32 (x).fl.dst, .int .i64 (x).fl.sp, .int .i64 (x).fl.dp, .int .i64 (x).be, .int .i64 (x).la] 62)) := (Below.refl w.heap.size w).drew.alloc (Nat.le_refl _) (.cells #[.int .i64 (x).fl.pr, .int .u32 (x).fl.src, .int .u32 (x).fl.dst, .int .i64 (x).fl.sp, .int .i64 (x).fl.dp, .int .i64 (x).be, .int .i64 (x).la] 62)
  have hseen : Seen enK (w.drew.alloc (.cells #[.int .i64 (x).fl.pr, .int .u32 (x).fl.src, .int .u32 (x).fl.dst, .int .i64 (x).fl.sp, .int .i64 (x).fl.dp, .int .i64 (x).be, .int .i64 (x).la] 62)) (fun _ => True) (some ⟨w.heap.size, 0, none⟩) 1 [x] := seen_one (R := enK) (S := fun _ => False) (S' := fun _ => True) w.drew 62 (x) #[.int .i64 (x).fl.pr, .int .u32 (x).fl.src, .int .u32 (x).fl.dst, .int .i64 (x).fl.sp, .int .i64 (x).fl.dp, .int .i64 (x).be, .int .i64 (x).la] rfl trivial (fun _ h => h.elim) trivial (fun _ h => h.elim)
  have hrow5 := hrow.below hb5
  have hd : (w.alloc (.cells #[.int .i64 (x).fl.pr, .int .u32 (x).fl.src, .int .u32 (x).fl.dst, .int .i64 (x).fl.sp, .int .i64 (x).fl.dp, .int .i64 (x).be, .int .i64 (x).la] 62)).drew = w.drew.alloc (.cells #[.int .i64 (x).fl.pr, .int .u32 (x).fl.src, .int .u32 (x).fl.dst, .int .i64 (x).fl.sp, .int .i64 (x).fl.dp, .int .i64 (x).be, .int .i64 (x).la] 62) := rfl
  try rw [hd]
  clear hd
  have hz5 : w0.heap.size ≤ (w.drew.alloc (.cells #[.int .i64 (x).fl.pr, .int .u32 (x).fl.src, .int .u32 (x).fl.dst, .int .i64 (x).fl.sp, .int .i64 (x).fl.dp, .int .i64 (x).be, .int .i64 (x).la] 62)).heap.size := Nat.le_trans hbase hb5.size
  generalize w.drew.alloc (.cells #[.int .i64 (x).fl.pr, .int .u32 (x).fl.src, .int .u32 (x).fl.dst, .int .i64 (x).fl.sp, .int .i64 (x).fl.dp, .int .i64 (x).be, .int .i64 (x).la] 62) = w5 at *
  have hg5' := grown_of_below hb5 (Nat.le_refl _) v.ownBlock
  have hs2r := hg5'
  refine hKQ.out _ _ hs2r ?_
  clear hKQ KQ
  try simp only [Act.put, List.setIfInBounds_toArray, List.set_cons_zero, List.set_cons_succ]
  refine e_callA 6 (by rfl) (by kernel_rfl) (by rfl) (fun KQ hKQ => ?_)
  refine wp_rowsO en_ok (.tmp 4) (.tmp 9) (by rfl) hrow5 (by rfl) (by rfl) hseen (fun _ _ => trivial) (by unfold maxLen; omega) (by omega) hz5 ?_
  intro v6 w6 hR6 hg6 ho6
  obtain ⟨ln, hln⟩ : ∃ ln, ln = (L ++ [x]).length := ⟨_, rfl⟩
  obtain ⟨A7, c7, e7, -⟩ := hR6.1.any
  rw [← hln] at e7
  subst e7
  replace hln := Lib.hid hln
  have hg46 := grown_trans hg5' hg6
  have hs3r := hg46
  refine hKQ.out _ _ hs3r ?_
  clear hKQ KQ
  try simp only [Act.put, List.setIfInBounds_toArray, List.set_cons_zero, List.set_cons_succ]
  have hq6 := hob.grown hg46 (fun e => hvo e.symm)
  have n1 := own_ne_blk hR6.1 hq6 (by decide)
  have f0 := hq6.frozen 0
  have lto6 := hq6.lt
  obtain ⟨hq7, hg7⟩ := blk_store hq6 0 (.slice A7 ln c7)
  have hR7 : Rows enK (w6.setCell ⟨ob, 0, none⟩ (.slice A7 ln c7)) w0.heap.size w0.heap.size 62 (.slice A7 ln c7) (L ++ [x]) := ⟨hR6.1.kept hg7 (.inr n1), fun _ _ => trivial⟩
  have c06 : w6.cell? ⟨ob, 0, none⟩ = some v := hq6.cellv 0 rfl
  have hC7 : Chg w (w6.setCell ⟨ob, 0, none⟩ (.slice A7 ln c7)) (fun k => w0.heap.size ≤ k) := (Chg.of_grownO (X := fun k => w0.heap.size ≤ k) hg46 (fun k e => (hrow.1.lt k e).1)).trans (Chg.of_grown (X := fun k => k = ob) hg7 rfl) (fun i hi q1 => by omega)
  replace hq7 := Lib.hid hq7
  replace hR7 := Lib.hid hR7
  replace hC7 := Lib.hid hC7
  clear hg7
  refine e_last (by rfl) (by kernel_rfl) (by rfl) (fun KQ hKQ => ?_)
  go_simp
  generalize w6.setCell ⟨ob, 0, none⟩ (.slice A7 ln c7) = w7 at *
  refine hKQ.out _ _ ?_
  clear hKQ KQ
  try simp only [Act.put]
  refine e_done (by kernel_rfl) ?_ _
  try refine NoPanic.normal ?_
  go_wp2_with fail
  go_ret
  exact ⟨rfl, _, hq7.out, hR7.out, n1, hC7.out⟩
theorem cyc_step {bk nx : Nat → Nat} {e x : Nat} {p q : List Nat} (h : Cyc bk nx e (p ++ x :: q)) : ∃ v, q ++ [e] = nx x :: v := (cyc_at h).2
set_option maxRecDepth 100000 in
set_option maxHeartbeats 4000000 in
theorem eachAll {w : World} {g m e : Nat} {ro idl now ca we : Int} {l : List Nat} {dt : Nat → EnV} {bk nx : Nat → Nat} (w0 : World) (h : RingV w g m e ro idl now ca we l dt bk nx) (ob : Nat) (hob : Blk w ob 65 #[.slice none 0 0]) (hbase : w0.heap.size ≤ w.heap.size) (hob0 : w0.heap.size ≤ ob) (hold : g < w0.heap.size ∧ m < w0.heap.size ∧ ∀ k ∈ e :: l, k < w0.heap.size) (hl : l.length ≤ 1000000) :
    Calls Try.prog 122 #[.pointer (some ⟨g, 0, none⟩), .func (.func 123) #[] #[.pointer (some ⟨ob, 0, none⟩)]] w fun en w' => en = .returned (.tuple #[]) ∧ ∃ v', Blk w' ob 65 #[v'] ∧ Rows enK w' w0.heap.size w0.heap.size 62 v' (l.map dt) ∧ Chg w w' (fun k => w0.heap.size ≤ k) := by
  obtain ⟨v0, hv0⟩ := cyc_next h.cyc
  have c4 : w.cell? ⟨g, 4, none⟩ = some (.pointer (some ⟨e, 0, none⟩)) := h.blk.cellv 4 rfl
  have e8 : w.cell? ⟨e, 8, none⟩ = some (.pointer (some ⟨nx e, 0, none⟩)) := (h.nod e (by simp)).cellv 8 rfl
  have ltg := h.blk.lt
  have lte := (h.nod e (by simp)).lt
  have hrow := Rows.nil (R := enK) w w0.heap.size w0.heap.size 62
  replace hv0 := Lib.hid hv0
  go_enter Try.func122, Try.ntmps122
  go_wp2_with (go_at_call 113; refine (madeF_in h).mono ?_; rintro en w' ⟨rfl, rfl⟩)
  go_loopg [4] (l.length + 1) (fun gf cv wr => ∃ (p q : List Nat) (c : Nat) (tl : List Nat) (v : Value), cv = .pointer (some ⟨c, 0, none⟩) ∧ l = p ++ q ∧ q ++ [e] = c :: tl ∧ q.length + 1 ≤ gf ∧ RingV wr g m e ro idl now ca we l dt bk nx ∧ Blk wr ob 65 #[v] ∧ Rows enK wr w0.heap.size w0.heap.size 62 v (p.map dt) ∧ v.ownBlock ≠ some ob ∧ Chg w wr (fun k => w0.heap.size ≤ k))
  case atStart => exact ⟨[], l, nx e, v0, _, rfl, rfl, hv0.out, Nat.le_refl _, h, hob, hrow, by simp [Value.ownBlock], Chg.refl _ _⟩
  case round =>
  clear h hob hrow c4 e8 ltg lte
  obtain ⟨p, q, c, tl, v, rfl, hpq, hq, hgf, h, hob, hrow, hvo, hC⟩ := hrel
  replace hpq := Lib.hid hpq
  have c4 : wr.cell? ⟨g, 4, none⟩ = some (.pointer (some ⟨e, 0, none⟩)) := h.blk.cellv 4 rfl
  have ltg := h.blk.lt
  have hz := hC.size
  cases q with
  | nil =>
    simp at hq
    obtain ⟨rfl, -⟩ := hq
    have hns := neq_same (w := wr) e
    go_wp2_with fail
    go_end0
    refine ⟨rfl, v, hob, ?_, hC⟩
    have e1 : l = p := by have := hpq.out; simpa using this
    rw [e1]
    exact hrow
  | cons x q =>
    rw [List.cons_append] at hq
    injection hq with hxc _
    subst hxc
    have hxl : x ∈ l := by rw [hpq.out]; simp
    have hnd := h.nd
    rw [List.nodup_cons] at hnd
    have hxe : x ≠ e := fun q1 => hnd.1 (q1 ▸ hxl)
    have hcyc := h.cyc
    rw [hpq.out] at hcyc
    obtain ⟨v1, hv1⟩ := cyc_step hcyc
    have hx := h.nod x (List.mem_cons_of_mem _ hxl)
    have x8 : wr.cell? ⟨x, 8, none⟩ = some (.pointer (some ⟨nx x, 0, none⟩)) := hx.cellv 8 rfl
    have ltx := hx.lt
    have hxo := hold.2.2 x (List.mem_cons_of_mem _ hxl)
    replace hv1 := Lib.hid hv1
    have hpl : (p.map dt).length ≤ 1000000 := by
      have h1 := congrArg List.length hpq.out
      rw [List.length_append, List.length_cons] at h1
      rw [List.length_map]
      omega
    have hno := neq_other hx (h.nod e (by simp)) hxe
    clear hcyc hnd
    go_wp2_with (go_at_call 123; refine (allStep wr w0 x ob (dt x) (bk x) (nx x) v (p.map dt) hx hob hrow (by omega) hxo hob0 hvo hpl).mono ?_; rintro en w2 ⟨rfl, v2, hob2, hrow2, hvo2, hC2⟩)
    go_roundg (q.length + 1)
    case measure => simp at hgf; omega
    case rel => exact ⟨p ++ [x], q, nx x, v1, v2, rfl, by rw [hpq.out]; simp, hv1.out, Nat.le_refl _, h.chg hC2 (by omega) (by omega) (fun k hk => by have := hold.2.2 k hk; omega), hob2, by rw [List.map_append]; exact hrow2, hvo2, hC.trans hC2 (fun _ _ q1 => q1)⟩
set_option maxRecDepth 100000 in
theorem allF_in {w : World} {g m e : Nat} {ro idl now ca we : Int} {l : List Nat} {dt : Nat → EnV} {bk nx : Nat → Nat} (h : RingV w g m e ro idl now ca we l dt bk nx) (hl : l.length ≤ 1000000) :
    Calls Try.prog 48 #[.pointer (some ⟨g, 0, none⟩)] w fun en w' => ∃ v, en = .returned v ∧ Rows enK w' w.heap.size w.heap.size 62 v (l.map dt) ∧ Below w.heap.size w w' := by
  have hB := (Below.refl w.heap.size w).alloc (Nat.le_refl _) (.cells #[.slice none 0 0] 65)
  have hob := Blk.new w 65 #[.slice none 0 0]
  have h1 := h.fwd hB
  go_enter Try.func48, Try.ntmps48
  go_upto_region 2 with (fail)
  generalize w.alloc (.cells #[.slice none 0 0] 65) = w1 at *
  go_upto_region 3 with (go_at_call 122; refine (eachAll w h1 w.heap.size hob hB.size (Nat.le_refl _) h.lt hl).mono ?_; rintro en w2 ⟨rfl, v, hob2, hrow, hC⟩)
  have c0 : w2.cell? ⟨w.heap.size, 0, none⟩ = some v := hob2.cellv 0 rfl
  have lto := hob2.lt
  go_wp2_with fail
  go_ret
  exact ⟨_, rfl, hrow, hB.trans ⟨hC.os, hC.tape, hC.output, hC.size, fun k hk => hC.block k (by have := hB.size; omega) (by omega)⟩⟩
end Go.Proofs.Ytejgekoinbdhjaa
