import Derived.Test.YtgdeecmhhbdjgaaGreatMVipActs17
import Derived.Test.YtgdeecmhhbdjgaaGreatMVipActs2
import Derived.LaidEql
import Derived.Deep.LoopGhost
/- flows: All. -/
namespace Go.Proofs.YtgdeecmhhbdjgaaGreat
set_option linter.unusedVariables false
open Go Go.RowKit Go.Maps

def enK : RK EnV where
  size := 7
  cel x := [.int .i64 x.fl.pr, .int .u32 x.fl.src, .int .u32 x.fl.dst, .int .i64 x.fl.sp, .int .i64 x.fl.dp, .int .i64 x.be, .int .i64 x.la]
  ok _ _ _ := True
  pos := by omega
  len _ := rfl
  one _ u hu := by simp at hu; rcases hu with rfl | rfl | rfl | rfl | rfl | rfl | rfl <;> rfl
  keep _ _ := trivial
  more _ _ := trivial
theorem en_ok : ElemOk Tryz.prog 218 86 enK.size 48 (enA ze) := ⟨Tryz.underlying218, by kernel_rfl, rfl, enK.pos⟩
theorem neq_same {w : World} (a : Nat) : (binOp .neq 180 (.pointer (some ⟨a, 0, none⟩)) (.pointer (some ⟨a, 0, none⟩))).run Tryz.prog w = .ok (.bool false) w := by
  have hte : ∃ j, Tryz.prog.info? 186 = some j ∧ j.size ≠ 0 := by
    have : (Tryz.prog.info? 186).map (·.size) = some 9 := by kernel_rfl
    cases h : Tryz.prog.info? 186 with
    | none => rw [h] at this; cases this
    | some j => rw [h] at this; simp at this; exact ⟨j, rfl, by omega⟩
  obtain ⟨j, hj, _⟩ := hte
  have h : ∀ d : Nat, (Op.equalIn (d + 1) 180 (.pointer (some ⟨a, 0, none⟩)) (.pointer (some ⟨a, 0, none⟩))).run Tryz.prog w = .ok true w := fun d => by
    simp [Op.equalIn, run_underlying Tryz.underlying180, sizeOf, typeInfo, hj, run_sameAddr_same]
  simp only [binOp]
  simp [Op.equal, Op.maxDepth, h 9999]
theorem neq_other {w : World} {a b : Nat} {ca cb : Array Value} (ha : Blk w a 186 ca) (hb : Blk w b 186 cb) (hne : a ≠ b) : (binOp .neq 180 (.pointer (some ⟨a, 0, none⟩)) (.pointer (some ⟨b, 0, none⟩))).run Tryz.prog w = .ok (.bool true) w := by
  have hte : ∃ j, Tryz.prog.info? 186 = some j ∧ j.size ≠ 0 := by
    have : (Tryz.prog.info? 186).map (·.size) = some 9 := by kernel_rfl
    cases h : Tryz.prog.info? 186 with
    | none => rw [h] at this; cases this
    | some j => rw [h] at this; simp at this; exact ⟨j, rfl, by omega⟩
  obtain ⟨j, hj, hsz⟩ := hte
  have hab : (⟨a, 0, none⟩ : Addr) ≠ ⟨b, 0, none⟩ := fun e => hne (by injection e)
  have h : ∀ d : Nat, (Op.equalIn (d + 1) 180 (.pointer (some ⟨a, 0, none⟩)) (.pointer (some ⟨b, 0, none⟩))).run Tryz.prog w = .ok false w := fun d => by
    simp [Op.equalIn, run_underlying Tryz.underlying180, sizeOf, typeInfo, hj, hsz, run_sameAddr_other w hab ha hb]
  simp only [binOp]
  simp [Op.equal, Op.maxDepth, h 9999]
theorem cyc_step {bk nx : Nat → Nat} {e x : Nat} {p q : List Nat} (h : Cyc bk nx e (p ++ x :: q)) : ∃ v, q ++ [e] = nx x :: v := (cyc_at h).2
end Go.Proofs.YtgdeecmhhbdjgaaGreat

/- flows: sweep, Purge, Expire. -/
namespace Go.Proofs.YtgdeecmhhbdjgaaGreat
set_option linter.unusedVariables false
open Go Go.RowKit Go.Maps

def soB (b : Int) (x : EnV) : Bool := x.be == b
def soE (t idl : Int) (x : EnV) : Bool := decide (x.la < t - idl)
set_option maxRecDepth 100000 in
theorem soPurge (w : World) (k cb : Nat) (x : EnV) (b n : Nat) (z : Int) (hk : Blk w k 186 (lnkC x b n)) (hc : Blk w cb 3 #[.int .i64 z]) :
    Calls Tryz.prog 172 #[.pointer (some ⟨k, 0, none⟩), .pointer (some ⟨cb, 0, none⟩)] w fun e w' => e = .returned (.bool (soB z x)) ∧ Below w.heap.size w w' := by
  have x5 : w.cell? ⟨k, 5, none⟩ = some (.int .i64 x.be) := hk.cellv 5 rfl
  have c0 : w.cell? ⟨cb, 0, none⟩ = some (.int .i64 z) := hc.cellv 0 rfl
  have ltk := hk.lt
  have ltc := hc.lt
  go_enter Tryz.func172, Tryz.ntmps172
  go_upto_region 1 with (fail)
  try refine wp_region_noPanic ?_
  have hs1r : Below w.heap.size w w.drew := (Below.refl _ _).drew
  refine wp_region_held_drew (S := fun w' => Below w.heap.size w w') (by kernel_rfl) hs1r (fun _ => ?_)
  (refine held_takeA 0 (by rfl) ?_ (by kernel_rfl) (fun _ _ _ h => h) hs1r ?_ ?_; rotate_left; (focus (intro wq hSw; have hrd := zR hSw; go_simp; try with_reducible rfl; done)); try simp only [Act.put, zA, zB, zC])
  (refine held_takeA 1 (by rfl) ?_ (by kernel_rfl) (fun _ _ _ h => h) hs1r ?_ ?_; rotate_left; (focus (intro wq hSw; have hrd := zR hSw; go_simp; try with_reducible rfl; done)); try simp only [Act.put, zA, zB, zC])
  (refine held_takeA 2 (by rfl) ?_ (by kernel_rfl) (fun _ _ _ h => h) hs1r ?_ ?_; rotate_left; (focus (intro wq hSw; have hrd := zR hSw; go_simp; try with_reducible rfl; done)); try simp only [Act.put, zA, zB, zC])
  (refine held_takeA 3 (by rfl) ?_ (by kernel_rfl) (fun _ _ _ h => h) hs1r ?_ ?_; rotate_left; (focus (intro wq hSw; have hrd := zR hSw; go_simp; try with_reducible rfl; done)); try simp only [Act.put, zA, zB, zC])
  (refine held_takeA 4 (by rfl) ?_ (by kernel_rfl) (fun _ _ _ h => h) hs1r ?_ ?_; rotate_left; (focus (intro wq hSw; have hrd := zR hSw; go_simp; try with_reducible rfl; done)); try simp only [Act.put, zA, zB, zC])
  (refine held_takeA 5 (by rfl) ?_ (by kernel_rfl) (fun _ _ _ h => h) hs1r ?_ ?_; rotate_left; (focus (intro wq hSw; have hrd := zR hSw; go_simp; try with_reducible rfl; done)); try simp only [Act.put, zA, zB, zC])
  (refine held_takeA 6 (by rfl) ?_ (by kernel_rfl) (fun _ _ _ h => h) hs1r ?_ ?_; rotate_left; (focus (intro wq hSw; have hrd := zR hSw; go_simp; try with_reducible rfl; done)); try simp only [Act.put, zA, zB, zC])
  (refine held_takeA 7 (by rfl) ?_ (by kernel_rfl) (fun _ _ _ h => h) hs1r ?_ ?_; rotate_left; (focus (intro wq hSw; have hrd := zR hSw; go_simp; try with_reducible rfl; done)); try simp only [Act.put, zA, zB, zC])
  refine wpAnyH_done (by kernel_rfl) ?_ _
  try refine NoPanic.normal ?_
  go_wp2_with fail
  go_ret
  exact ⟨rfl, (Below.refl _ _).drew⟩
def SwpPurge (w w0 w' : World) (g m e ob x : Nat) (ro idl now ca we : Int) (p q : List Nat) (dt : Nat → EnV) (v : Value) (L : List EnV) (z : Int) : Prop :=
  ∃ p' v' L' bk' nx', RingV w' g m e ro idl now ca we (p' ++ q) dt bk' nx' ∧ Blk w' ob 218 #[v'] ∧ Rows enK w' w0.heap.size w0.heap.size 86 v' L' ∧ v'.ownBlock ≠ some ob ∧ Chg w w' (fun k => k = m ∨ k ∈ e :: (p ++ x :: q) ∨ k = ob ∨ v.ownBlock = some k) ∧ ((soB z (dt x) = false ∧ p' = p ++ [x] ∧ L' = L) ∨ (soB z (dt x) = true ∧ p' = p ∧ L' = L ++ [dt x]))
set_option maxRecDepth 100000 in
set_option maxHeartbeats 4000000 in
theorem sweepStepPurge {w : World} {g m e : Nat} {ro idl now ca we : Int} {dt : Nat → EnV} {bk nx : Nat → Nat} {p q : List Nat} {x : Nat} (w0 : World) (z : Int) (h : RingV w g m e ro idl now ca we (p ++ x :: q) dt bk nx) (sb tb ob cb : Nat) (v : Value) (L : List EnV) (hs : Blk w sb 220 #[.func (.func 172) #[] #[.pointer (some ⟨cb, 0, none⟩)]]) (hcap : Blk w cb 3 #[.int .i64 z]) (ht : Blk w tb 59 #[.pointer (some ⟨g, 0, none⟩)]) (hob : Blk w ob 218 #[v]) (hrow : Rows enK w w0.heap.size w0.heap.size 86 v L)
    (hbase : w0.heap.size ≤ w.heap.size) (hold : g < w0.heap.size ∧ m < w0.heap.size ∧ ∀ k ∈ e :: (p ++ x :: q), k < w0.heap.size) (hob0 : w0.heap.size ≤ ob ∧ w0.heap.size ≤ tb ∧ w0.heap.size ≤ sb) (hvo : v.ownBlock ≠ some ob) (hL : L.length ≤ 1000000) :
    Calls Tryz.prog 229 #[.pointer (some ⟨x, 0, none⟩), .pointer (some ⟨sb, 0, none⟩), .pointer (some ⟨tb, 0, none⟩), .pointer (some ⟨ob, 0, none⟩)] w fun en w' => en = .returned (.bool true) ∧ SwpPurge w w0 w' g m e ob x ro idl now ca we p q dt v L z := by
  have hxl : x ∈ e :: (p ++ x :: q) := by simp
  have hx := h.nod x hxl
  have hxo := hold.2.2 x hxl
  have s0 : w.cell? ⟨sb, 0, none⟩ = some (.func (.func 172) #[] #[.pointer (some ⟨cb, 0, none⟩)]) := hs.cellv 0 rfl
  have lts := hs.lt
  have htb : tb ≠ ob := blk_apart ht hob (by decide)
  have htv := own_ne_blk hrow.1 ht (by decide)
  have hvx : v.ownBlock ≠ some x := fun e1 => by have := (hrow.1.lt x e1).1; omega
  have hso := (soPurge w x cb (dt x) (bk x) (nx x) z hx hcap)
  go_enter Tryz.func229, Tryz.ntmps229
  cases hb : soB z (dt x) with
  | false =>
    rw [hb] at hso
    go_wp2_with (refine hso.mono ?_; rintro en w2 ⟨rfl, hb2⟩)
    go_ret
    refine ⟨rfl, p ++ [x], v, L, bk, nx, ?_, hob.below hb2 hob.lt, hrow.below hb2, hvo, Chg.of_below hb2, .inl ⟨hb, rfl, rfl⟩⟩
    rw [List.append_assoc]
    exact h.fwd hb2
  | true =>
    rw [hb] at hso
    replace hb := Lib.hid hb
    go_upto_region 3 with (first
      | (go_at_call 172; refine hso.mono ?_; rintro en w2 ⟨rfl, hb2⟩; have t0 : w2.cell? ⟨tb, 0, none⟩ = some (.pointer (some ⟨g, 0, none⟩)) := (ht.below hb2 ht.lt).cellv 0 rfl; have ltt := (ht.below hb2 ht.lt).lt)
      | (go_at_call 192; refine (goneF_any (h.fwd hb2)).mono ?_; rintro en w3 ⟨rfl, h3, hC3, hx3⟩))
    have hkeep : ∀ k, w0.heap.size ≤ k → ¬ (k = m ∨ k ∈ e :: (p ++ x :: q)) := fun k hk q1 => by
      rcases q1 with q1 | q1
      · have := hold.2.1; omega
      · have := hold.2.2 k q1; omega
    have hrow2 := hrow.below hb2
    have hob2 := hob.below hb2 hob.lt
    have hz2 := hb2.size
    have hz3 := hC3.size
    have hrow3 : Rows enK w3 w0.heap.size w0.heap.size 86 v L := ⟨hC3.own hrow2.1 (fun k e1 => hkeep k (hrow2.1.lt k e1).1), fun _ _ => trivial⟩
    have hob3 := hC3.blk hob2 (hkeep ob hob0.1)
    have hC13 := (Chg.of_below (X := fun k => k = m ∨ k ∈ e :: (p ++ x :: q)) hb2).trans hC3 (fun _ _ q1 => q1)
    have hbase3 : w0.heap.size ≤ w3.heap.size := by omega
    clear hso hs hcap ht h hrow hob hrow2 hob2 hb2 hC3 s0 lts t0 ltt hx hbase
    have hrow := hrow3
    have hob := hob3
    have hbase := hbase3
    clear hrow3 hob3 hbase3
    have c0 : w3.cell? ⟨ob, 0, none⟩ = some v := hob.cellv 0 rfl
    have x0 : w3.cell? ⟨x, 0, none⟩ = some (.int .i64 (dt x).fl.pr) := hx3.cellv 0 rfl
    have x1 : w3.cell? ⟨x, 1, none⟩ = some (.int .u32 (dt x).fl.src) := hx3.cellv 1 rfl
    have x2 : w3.cell? ⟨x, 2, none⟩ = some (.int .u32 (dt x).fl.dst) := hx3.cellv 2 rfl
    have x3 : w3.cell? ⟨x, 3, none⟩ = some (.int .i64 (dt x).fl.sp) := hx3.cellv 3 rfl
    have x4 : w3.cell? ⟨x, 4, none⟩ = some (.int .i64 (dt x).fl.dp) := hx3.cellv 4 rfl
    have x5 : w3.cell? ⟨x, 5, none⟩ = some (.int .i64 (dt x).be) := hx3.cellv 5 rfl
    have x6 : w3.cell? ⟨x, 6, none⟩ = some (.int .i64 (dt x).la) := hx3.cellv 6 rfl
    have ltk := hx3.lt
    have lto := hob.lt
    try refine wp_region_noPanic ?_
    have hs3r : (fun w' => w3.grownBy w' v.ownBlock) w3.drew := grown_drew (grown_refl _ _)
    refine wp_region_E 7 (S := fun w' => w3.grownBy w' v.ownBlock) (by kernel_rfl) hs3r (fun _ => ?_)
    (refine e_takeA 0 (by rfl) ?_ (by kernel_rfl) (fun _ _ _ h => h) hs3r ?_ ?_; rotate_left; (focus (intro wq hSw; have hrd := hSw; have hrd2 : ∀ b' o, b' < w3.heap.size → v.ownBlock ≠ some b' → wq.cell? ⟨b', o, none⟩ = w3.cell? ⟨b', o, none⟩ := (fun b' o h hne => grown_cellO hSw h hne); go_simp; try with_reducible rfl; done)); try simp only [Act.put, zA, zB, zC])
    (refine e_takeA 1 (by rfl) ?_ (by kernel_rfl) (fun _ _ _ h => h) hs3r ?_ ?_; rotate_left; (focus (intro wq hSw; have hrd := hSw; have hrd2 : ∀ b' o, b' < w3.heap.size → v.ownBlock ≠ some b' → wq.cell? ⟨b', o, none⟩ = w3.cell? ⟨b', o, none⟩ := (fun b' o h hne => grown_cellO hSw h hne); go_simp; try with_reducible rfl; done)); try simp only [Act.put, zA, zB, zC])
    (refine e_takeA 2 (by rfl) ?_ (by kernel_rfl) (fun _ _ _ h => h) hs3r ?_ ?_; rotate_left; (focus (intro wq hSw; have hrd := hSw; have hrd2 : ∀ b' o, b' < w3.heap.size → v.ownBlock ≠ some b' → wq.cell? ⟨b', o, none⟩ = w3.cell? ⟨b', o, none⟩ := (fun b' o h hne => grown_cellO hSw h hne); go_simp; try with_reducible rfl; done)); try simp only [Act.put, zA, zB, zC])
    (refine e_takeA 3 (by rfl) ?_ (by kernel_rfl) (fun _ _ _ h => h) hs3r ?_ ?_; rotate_left; (focus (intro wq hSw; have hrd := hSw; have hrd2 : ∀ b' o, b' < w3.heap.size → v.ownBlock ≠ some b' → wq.cell? ⟨b', o, none⟩ = w3.cell? ⟨b', o, none⟩ := (fun b' o h hne => grown_cellO hSw h hne); go_simp; try with_reducible rfl; done)); try simp only [Act.put, zA, zB, zC])
    (refine e_takeA 4 (by rfl) ?_ (by kernel_rfl) (fun _ _ _ h => h) hs3r ?_ ?_; rotate_left; (focus (intro wq hSw; have hrd := hSw; have hrd2 : ∀ b' o, b' < w3.heap.size → v.ownBlock ≠ some b' → wq.cell? ⟨b', o, none⟩ = w3.cell? ⟨b', o, none⟩ := (fun b' o h hne => grown_cellO hSw h hne); go_simp; try with_reducible rfl; done)); try simp only [Act.put, zA, zB, zC])
    refine e_callA 5 (by rfl) (by kernel_rfl) (by rfl) (fun KQ hKQ => ?_)
    go_simp
    have hb5 : Below w3.heap.size w3 (w3.drew.alloc (.cells #[.int .i64 (dt x).fl.pr, .int .u32 (dt x).fl.src, .int .u32 (dt x).fl.dst, .int .i64 (dt x).fl.sp, .int .i64 (dt x).fl.dp, .int .i64 (dt x).be, .int .i64 (dt x).la] 86)) := (Below.refl w3.heap.size w3).drew.alloc (Nat.le_refl _) (.cells #[.int .i64 (dt x).fl.pr, .int .u32 (dt x).fl.src, .int .u32 (dt x).fl.dst, .int .i64 (dt x).fl.sp, .int .i64 (dt x).fl.dp, .int .i64 (dt x).be, .int .i64 (dt x).la] 86)
    have hseen : Seen enK (w3.drew.alloc (.cells #[.int .i64 (dt x).fl.pr, .int .u32 (dt x).fl.src, .int .u32 (dt x).fl.dst, .int .i64 (dt x).fl.sp, .int .i64 (dt x).fl.dp, .int .i64 (dt x).be, .int .i64 (dt x).la] 86)) (fun _ => True) (some ⟨w3.heap.size, 0, none⟩) 1 [dt x] := seen_one (R := enK) (S := fun _ => False) (S' := fun _ => True) w3.drew 86 (dt x) #[.int .i64 (dt x).fl.pr, .int .u32 (dt x).fl.src, .int .u32 (dt x).fl.dst, .int .i64 (dt x).fl.sp, .int .i64 (dt x).fl.dp, .int .i64 (dt x).be, .int .i64 (dt x).la] rfl trivial (fun _ h => h.elim) trivial (fun _ h => h.elim)
    have hrow5 := hrow.below hb5
    have hd : (w3.alloc (.cells #[.int .i64 (dt x).fl.pr, .int .u32 (dt x).fl.src, .int .u32 (dt x).fl.dst, .int .i64 (dt x).fl.sp, .int .i64 (dt x).fl.dp, .int .i64 (dt x).be, .int .i64 (dt x).la] 86)).drew = w3.drew.alloc (.cells #[.int .i64 (dt x).fl.pr, .int .u32 (dt x).fl.src, .int .u32 (dt x).fl.dst, .int .i64 (dt x).fl.sp, .int .i64 (dt x).fl.dp, .int .i64 (dt x).be, .int .i64 (dt x).la] 86) := rfl
    try rw [hd]
    clear hd
    have hz5 : w0.heap.size ≤ (w3.drew.alloc (.cells #[.int .i64 (dt x).fl.pr, .int .u32 (dt x).fl.src, .int .u32 (dt x).fl.dst, .int .i64 (dt x).fl.sp, .int .i64 (dt x).fl.dp, .int .i64 (dt x).be, .int .i64 (dt x).la] 86)).heap.size := Nat.le_trans hbase hb5.size
    generalize w3.drew.alloc (.cells #[.int .i64 (dt x).fl.pr, .int .u32 (dt x).fl.src, .int .u32 (dt x).fl.dst, .int .i64 (dt x).fl.sp, .int .i64 (dt x).fl.dp, .int .i64 (dt x).be, .int .i64 (dt x).la] 86) = w5 at *
    have hg5' := grown_of_below hb5 (Nat.le_refl _) v.ownBlock
    have hs4r := hg5'
    refine hKQ.out _ _ hs4r ?_
    clear hKQ KQ
    try simp only [Act.put, zA, zB, zC]
    refine e_callA 6 (by rfl) (by kernel_rfl) (by rfl) (fun KQ hKQ => ?_)
    refine wp_rowsO en_ok (.tmp 12) (.tmp 17) (by rfl) hrow5 (by rfl) (by rfl) hseen (fun _ _ => trivial) (by unfold maxLen; omega) (by omega) hz5 ?_
    intro v6 w6 hR6 hg6 ho6
    obtain ⟨ln, hln⟩ : ∃ ln, ln = (L ++ [dt x]).length := ⟨_, rfl⟩
    obtain ⟨A7, c7, e7, -⟩ := hR6.1.any
    rw [← hln] at e7
    subst e7
    replace hln := Lib.hid hln
    have hg46 := grown_trans hg5' hg6
    have hs5r := hg46
    refine hKQ.out _ _ hs5r ?_
    clear hKQ KQ
    try simp only [Act.put, zA, zB, zC]
    have hq6 := hob.grown hg46 (fun e => hvo e.symm)
    have n1 := own_ne_blk hR6.1 hq6 (by decide)
    have f0 := hq6.frozen 0
    have lto6 := hq6.lt
    obtain ⟨hq7, hg7⟩ := blk_store hq6 0 (.slice A7 ln c7)
    have hR7 : Rows enK (w6.setCell ⟨ob, 0, none⟩ (.slice A7 ln c7)) w0.heap.size w0.heap.size 86 (.slice A7 ln c7) (L ++ [dt x]) := ⟨hR6.1.kept hg7 (.inr n1), fun _ _ => trivial⟩
    have c06 : w6.cell? ⟨ob, 0, none⟩ = some v := hq6.cellv 0 rfl
    have hC7 : Chg w3 (w6.setCell ⟨ob, 0, none⟩ (.slice A7 ln c7)) (fun k => k = ob ∨ v.ownBlock = some k) := (Chg.of_grownO (X := fun k => k = ob ∨ v.ownBlock = some k) hg46 (fun k e => .inr e)).trans (Chg.of_grown (X := fun k => k = ob) hg7 rfl) (fun i hi q1 => .inl q1)
    replace hq7 := Lib.hid hq7
    replace hR7 := Lib.hid hR7
    replace hC7 := Lib.hid hC7
    clear hg7
    refine e_last (by rfl) (by kernel_rfl) (by rfl) (fun KQ hKQ => ?_)
    go_simp
    generalize w6.setCell ⟨ob, 0, none⟩ (.slice A7 ln c7) = w7 at *
    refine hKQ.out _ _ ?_
    clear hKQ KQ
    try simp only [Act.put]
    refine e_done (by kernel_rfl) ?_ _
    try refine NoPanic.normal ?_
    go_wp2_with fail
    go_ret
    refine ⟨rfl, p, _, _, _, _, h3.chg hC7.out ?_ ?_ ?_, hq7.out, hR7.out, n1, (hC13.mono (fun i hi q1 => ?_)).trans hC7.out (fun i hi q1 => ?_), .inr ⟨hb.out, rfl, rfl⟩⟩
    · rintro (q1 | q1)
      · have := hold.1; omega
      · have := (hrow.1.lt g q1).1; have := hold.1; omega
    · rintro (q1 | q1)
      · have := hold.2.1; omega
      · have := (hrow.1.lt m q1).1; have := hold.2.1; omega
    · intro k hk
      have hk2 : k < w0.heap.size := hold.2.2 k (by
        rcases List.mem_cons.1 hk with q2 | q2
        · rw [q2]; simp
        · refine List.mem_cons_of_mem _ ?_
          simp at q2 ⊢
          rcases q2 with q2 | q2 <;> simp [q2])
      rintro (q1 | q1)
      · omega
      · have := (hrow.1.lt k q1).1; omega
    · exact q1.elim .inl fun q1 => .inr (.inl q1)
    · exact .inr (.inr q1)
def SwpExpire (w w0 w' : World) (g m e ob x : Nat) (ro idl now ca we : Int) (p q : List Nat) (dt : Nat → EnV) (v : Value) (L : List EnV)  : Prop :=
  ∃ p' v' L' bk' nx', RingV w' g m e ro idl now ca we (p' ++ q) dt bk' nx' ∧ Blk w' ob 218 #[v'] ∧ Rows enK w' w0.heap.size w0.heap.size 86 v' L' ∧ v'.ownBlock ≠ some ob ∧ Chg w w' (fun k => k = m ∨ k ∈ e :: (p ++ x :: q) ∨ k = ob ∨ v.ownBlock = some k) ∧ ((soE now idl (dt x) = false ∧ p' = p ++ [x] ∧ L' = L) ∨ (soE now idl (dt x) = true ∧ p' = p ∧ L' = L ++ [dt x]))
set_option maxRecDepth 100000 in
set_option maxHeartbeats 8000000 in
theorem eachSweepPurge {w : World} {g m e : Nat} {ro idl now ca we : Int} {dt : Nat → EnV} {bk nx : Nat → Nat} {l : List Nat} (w0 : World) (z : Int) (h : RingV w g m e ro idl now ca we l dt bk nx) (sb tb ob cb : Nat) (hs : Blk w sb 220 #[.func (.func 172) #[] #[.pointer (some ⟨cb, 0, none⟩)]]) (hcap : Blk w cb 3 #[.int .i64 z]) (ht : Blk w tb 59 #[.pointer (some ⟨g, 0, none⟩)]) (hob : Blk w ob 218 #[.slice none 0 0])
    (hbase : w0.heap.size ≤ w.heap.size) (hold : g < w0.heap.size ∧ m < w0.heap.size ∧ ∀ k ∈ e :: l, k < w0.heap.size) (hob0 : w0.heap.size ≤ ob ∧ w0.heap.size ≤ tb ∧ w0.heap.size ≤ sb ∧ w0.heap.size ≤ cb) (hl : l.length ≤ 1000000) :
    Calls Tryz.prog 188 #[.pointer (some ⟨g, 0, none⟩), .func (.func 229) #[] #[.pointer (some ⟨sb, 0, none⟩), .pointer (some ⟨tb, 0, none⟩), .pointer (some ⟨ob, 0, none⟩)]] w fun en w' => en = .returned (.tuple #[]) ∧ ∃ bk' nx' v', RingV w' g m e ro idl now ca we (l.filter fun k => !(soB z (dt k))) dt bk' nx' ∧ Blk w' ob 218 #[v'] ∧ Rows enK w' w0.heap.size w0.heap.size 86 v' ((l.filter fun k => soB z (dt k)).map dt) ∧ Chg w w' (fun k => k = m ∨ k ∈ e :: l ∨ w0.heap.size ≤ k) := by
  obtain ⟨v0, hv0⟩ := cyc_next h.cyc
  have c4 : w.cell? ⟨g, 4, none⟩ = some (.pointer (some ⟨e, 0, none⟩)) := h.blk.cellv 4 rfl
  have e8 : w.cell? ⟨e, 8, none⟩ = some (.pointer (some ⟨nx e, 0, none⟩)) := (h.nod e (by simp)).cellv 8 rfl
  have ltg := h.blk.lt
  have lte := (h.nod e (by simp)).lt
  have hrow := Rows.nil (R := enK) w w0.heap.size w0.heap.size 86
  replace hv0 := Lib.hid hv0
  go_enter Tryz.func188, Tryz.ntmps188
  go_wp2_with (go_at_call 115; refine (madeF_in h).mono ?_; rintro en w' ⟨rfl, rfl⟩)
  go_loopg [4] (l.length + 1) (fun gf cv wr => ∃ (dn q : List Nat) (c : Nat) (tl : List Nat) (v : Value) (bk nx : Nat → Nat), cv = .pointer (some ⟨c, 0, none⟩) ∧ l = dn ++ q ∧ q ++ [e] = c :: tl ∧ q.length + 1 ≤ gf ∧ RingV wr g m e ro idl now ca we ((dn.filter fun k => !(soB z (dt k))) ++ q) dt bk nx ∧ Blk wr ob 218 #[v] ∧ Rows enK wr w0.heap.size w0.heap.size 86 v ((dn.filter fun k => soB z (dt k)).map dt) ∧ v.ownBlock ≠ some ob ∧ Chg w wr (fun k => k = m ∨ k ∈ e :: l ∨ w0.heap.size ≤ k) ∧ Blk wr sb 220 #[.func (.func 172) #[] #[.pointer (some ⟨cb, 0, none⟩)]] ∧ Blk wr cb 3 #[.int .i64 z] ∧ Blk wr tb 59 #[.pointer (some ⟨g, 0, none⟩)])
  case atStart => exact ⟨[], l, nx e, v0, _, bk, nx, rfl, rfl, hv0.out, Nat.le_refl _, h, hob, hrow, by simp [Value.ownBlock], Chg.refl _ _, hs, hcap, ht⟩
  case round =>
  clear h hob hrow c4 e8 ltg lte hs hcap ht
  obtain ⟨dn, q, c, tl, v, bk, nx, rfl, hpq, hq, hgf, h, hob, hrow, hvo, hC, hs, hcap, ht⟩ := hrel
  replace hpq := Lib.hid hpq
  have c4 : wr.cell? ⟨g, 4, none⟩ = some (.pointer (some ⟨e, 0, none⟩)) := h.blk.cellv 4 rfl
  have ltg := h.blk.lt
  have hz := hC.size
  cases q with
  | nil =>
    simp at hq
    obtain ⟨rfl, -⟩ := hq
    have hns := neq_same (w := wr) e
    go_wp2_with fail
    go_end0
    have e1 : l = dn := by have := hpq.out; simpa using this
    rw [List.append_nil] at h
    rw [← e1] at h hrow
    exact ⟨rfl, bk, nx, v, h, hob, hrow, hC⟩
  | cons x q =>
    rw [List.cons_append] at hq
    injection hq with hxc _
    subst hxc
    have hxl : x ∈ l := by rw [hpq.out]; simp
    obtain ⟨p, hp⟩ : ∃ p, p = dn.filter fun k => !(soB z (dt k)) := ⟨_, rfl⟩
    obtain ⟨L, hL⟩ : ∃ L, L = (dn.filter fun k => soB z (dt k)).map dt := ⟨_, rfl⟩
    rw [← hp] at h
    rw [← hL] at hrow
    have hsub : ∀ k ∈ e :: (p ++ x :: q), k ∈ e :: l := fun k hk => by
      rw [hpq.out]
      rcases List.mem_cons.1 hk with q1 | q1
      · rw [q1]; simp
      · refine List.mem_cons_of_mem _ ?_
        rcases List.mem_append.1 q1 with q1 | q1
        · rw [hp] at q1
          exact List.mem_append_left _ (List.mem_filter.1 q1).1
        · exact List.mem_append_right _ q1
    have hnd := h.nd
    rw [List.nodup_cons] at hnd
    have hxe : x ≠ e := fun q1 => hnd.1 (by rw [← q1]; simp)
    obtain ⟨v1, hv1⟩ := cyc_step h.cyc
    have hx := h.nod x (by simp)
    have x8 : wr.cell? ⟨x, 8, none⟩ = some (.pointer (some ⟨nx x, 0, none⟩)) := hx.cellv 8 rfl
    have ltx := hx.lt
    have hns := neq_other hx (h.nod e (by simp)) hxe
    have hpl : L.length ≤ 1000000 := by
      have h1 := congrArg List.length hpq.out
      rw [List.length_append, List.length_cons] at h1
      have h2 : (dn.filter fun k => soB z (dt k)).length ≤ dn.length := List.length_filter_le _ _
      rw [hL, List.length_map]
      omega
    have hst := sweepStepPurge w0 z h sb tb ob cb v L hs hcap ht hob hrow (by omega) ⟨hold.1, hold.2.1, fun k hk => hold.2.2 k (hsub k hk)⟩ ⟨hob0.1, hob0.2.1, hob0.2.2.1⟩ hvo hpl 
    replace hv1 := Lib.hid hv1
    replace hp := Lib.hid hp
    replace hL := Lib.hid hL
    clear hnd
    go_wp2_with (go_at_call 229; refine hst.mono ?_; rintro en w2 ⟨rfl, hsw⟩)
    obtain ⟨p', v2, L', bk2, nx2, h2, hob2, hrow2, hvo2, hC2, hcase⟩ := hsw
    have hkeep : ∀ k, w0.heap.size ≤ k → k ≠ ob → v.ownBlock ≠ some k → ¬ (k = m ∨ k ∈ e :: (p ++ x :: q) ∨ k = ob ∨ v.ownBlock = some k) := fun k h1 h2 h3 q1 => by
      rcases q1 with q1 | q1 | q1 | q1
      · have := hold.2.1; omega
      · have := hold.2.2 k (hsub k q1); omega
      · exact h2 q1
      · exact h3 q1
    have hs2 := hC2.blk hs (hkeep sb hob0.2.2.1 (blk_apart hs hob (by decide)) (own_ne_blk hrow.1 hs (by decide)))
    have hc2 := hC2.blk hcap (hkeep cb hob0.2.2.2 (blk_apart hcap hob (by decide)) (own_ne_blk hrow.1 hcap (by decide)))
    have ht2 := hC2.blk ht (hkeep tb hob0.2.1 (blk_apart ht hob (by decide)) (own_ne_blk hrow.1 ht (by decide)))
    have hlt2 : ∀ k, v.ownBlock = some k → w0.heap.size ≤ k := fun k e1 => (hrow.1.lt k e1).1
    have hCC := hC.trans hC2 (fun i hi q1 => by
      rcases q1 with q1 | q1 | q1 | q1
      · exact .inl q1
      · exact .inr (.inl (hsub i q1))
      · exact .inr (.inr (by omega))
      · exact .inr (.inr (hlt2 i q1)))
    have hpe : p' = (dn ++ [x]).filter (fun k => !(soB z (dt k))) ∧ L' = ((dn ++ [x]).filter fun k => soB z (dt k)).map dt := by
      rw [List.filter_append, List.filter_append, List.map_append, ← hp.out, ← hL.out]
      rcases hcase with ⟨c1, rfl, rfl⟩ | ⟨c1, rfl, rfl⟩
      · simp [c1]
      · simp [c1]
    rw [hpe.1] at h2
    rw [hpe.2] at hrow2
    go_roundg (q.length + 1)
    case measure => simp at hgf; omega
    case rel => exact ⟨dn ++ [x], q, nx x, v1, v2, bk2, nx2, rfl, by rw [hpq.out]; simp, hv1.out, Nat.le_refl _, h2, hob2, hrow2, hvo2, hCC, hs2, hc2, ht2⟩
end Go.Proofs.YtgdeecmhhbdjgaaGreat

/- flows: Purge, Expire. -/
namespace Go.Proofs.YtgdeecmhhbdjgaaGreat
set_option linter.unusedVariables false
open Go Go.RowKit Go.Maps

set_option maxRecDepth 100000 in
set_option maxHeartbeats 4000000 in
theorem sweepPurge {w : World} {g m e : Nat} {ro idl now ca we : Int} {dt : Nat → EnV} {bk nx : Nat → Nat} {l : List Nat} (w0 : World) (z : Int) (h : RingV w g m e ro idl now ca we l dt bk nx) (cb : Nat) (hcap : Blk w cb 3 #[.int .i64 z]) (hbase : w0.heap.size ≤ w.heap.size) (hold : g < w0.heap.size ∧ m < w0.heap.size ∧ ∀ k ∈ e :: l, k < w0.heap.size) (hcb : w0.heap.size ≤ cb) (hl : l.length ≤ 1000000) :
    Calls Tryz.prog 171 #[.pointer (some ⟨g, 0, none⟩), .func (.func 172) #[] #[.pointer (some ⟨cb, 0, none⟩)]] w fun en w' => ∃ v bk' nx', en = .returned v ∧ RingV w' g m e ro idl now ca we (l.filter fun k => !(soB z (dt k))) dt bk' nx' ∧ Rows enK w' w0.heap.size w0.heap.size 86 v ((l.filter fun k => soB z (dt k)).map dt) ∧ Chg w w' (fun k => k = m ∨ k ∈ e :: l ∨ w0.heap.size ≤ k) := by
  have hB1 := (Below.refl w.heap.size w).alloc (Nat.le_refl _) (.cells #[.pointer (some ⟨g, 0, none⟩)] 59)
  have ht1 := Blk.new w 59 #[.pointer (some ⟨g, 0, none⟩)]
  have h1 := h.fwd hB1
  have hc1 := hcap.alloc (.cells #[.pointer (some ⟨g, 0, none⟩)] 59)
  have z1 : (w.alloc (.cells #[.pointer (some ⟨g, 0, none⟩)] 59)).heap.size = w.heap.size + 1 := by simp
  go_enter Tryz.func171, Tryz.ntmps171
  have hB2 := hB1.alloc hB1.size (.cells #[.func (.func 172) #[] #[.pointer (some ⟨cb, 0, none⟩)]] 220)
  have hs2 := Blk.new (w.alloc (.cells #[.pointer (some ⟨g, 0, none⟩)] 59)) 220 #[.func (.func 172) #[] #[.pointer (some ⟨cb, 0, none⟩)]]
  have ht2 := ht1.alloc (.cells #[.func (.func 172) #[] #[.pointer (some ⟨cb, 0, none⟩)]] 220)
  have hc2 := hc1.alloc (.cells #[.func (.func 172) #[] #[.pointer (some ⟨cb, 0, none⟩)]] 220)
  rw [z1] at hs2
  have h2 := h.fwd hB2
  have z2 : ((w.alloc (.cells #[.pointer (some ⟨g, 0, none⟩)] 59)).alloc (.cells #[.func (.func 172) #[] #[.pointer (some ⟨cb, 0, none⟩)]] 220)).heap.size = w.heap.size + 2 := by simp
  clear hB1 ht1 h1 hc1 z1
  go_upto_region 1 with (fail)
  generalize (w.alloc (.cells #[.pointer (some ⟨g, 0, none⟩)] 59)).alloc (.cells #[.func (.func 172) #[] #[.pointer (some ⟨cb, 0, none⟩)]] 220) = w2 at *
  have hB3 := hB2.alloc hB2.size (.cells #[.slice none 0 0] 218)
  have ho3 := Blk.new w2 218 #[.slice none 0 0]
  have hs3 := hs2.alloc (.cells #[.slice none 0 0] 218)
  have ht3 := ht2.alloc (.cells #[.slice none 0 0] 218)
  have hc3 := hc2.alloc (.cells #[.slice none 0 0] 218)
  have h3 := h.fwd hB3
  rw [z2] at ho3
  clear hB2 hs2 ht2 hc2 h2
  replace z2 := Lib.hid z2
  go_upto_region 2 with (fail)
  try rw [z2.out]
  have z3 := hB3.size
  generalize w2.alloc (.cells #[.slice none 0 0] 218) = w3 at *
  have t0 : w3.cell? ⟨w.heap.size, 0, none⟩ = some (.pointer (some ⟨g, 0, none⟩)) := ht3.cellv 0 rfl
  have ltt := ht3.lt
  obtain ⟨tb, htb⟩ : ∃ tb, tb = w.heap.size := ⟨_, rfl⟩
  obtain ⟨sb, hsb⟩ : ∃ sb, sb = w.heap.size + 1 := ⟨_, rfl⟩
  obtain ⟨ob, hob⟩ : ∃ ob, ob = w.heap.size + 2 := ⟨_, rfl⟩
  rw [← htb] at t0 ltt ht3
  rw [← hsb] at hs3
  rw [← hob] at ho3
  rw [← htb, show tb + 1 = sb by omega, show tb + 2 = ob by omega]
  have hlo : w0.heap.size ≤ ob ∧ w0.heap.size ≤ tb ∧ w0.heap.size ≤ sb ∧ w0.heap.size ≤ cb := by omega
  replace htb := Lib.hid htb
  replace hsb := Lib.hid hsb
  replace hob := Lib.hid hob
  have hea := eachSweepPurge w0 z h3 sb tb ob cb hs3 hc3 ht3 ho3 (by omega) hold hlo hl 
  go_upto_region 3 with (go_at_call 188; refine hea.mono ?_; rintro en w4 ⟨rfl, bk', nx', v, h4, ho4, hrow4, hC4⟩)
  have o0 : w4.cell? ⟨ob, 0, none⟩ = some v := ho4.cellv 0 rfl
  have lto := ho4.lt
  go_wp2_with fail
  go_ret
  exact ⟨v, bk', nx', rfl, h4, hrow4, (Chg.of_below hB3).trans hC4 (fun _ _ q1 => q1)⟩
set_option maxRecDepth 100000 in
set_option maxHeartbeats 4000000 in
theorem purgeF_in {w : World} {g m e : Nat} {ro idl now ca we : Int} {dt : Nat → EnV} {bk nx : Nat → Nat} {l : List Nat} (h : RingV w g m e ro idl now ca we l dt bk nx) (z : Int) (hl : l.length ≤ 1000000) :
    Calls Tryz.prog 89 #[.pointer (some ⟨g, 0, none⟩), .int .i64 z] w fun en w' => ∃ bk' nx', en = .returned (.int .i64 (l.filter fun k => soB z (dt k)).length) ∧ RingV w' g m e ro idl now ca we (l.filter fun k => !(soB z (dt k))) dt bk' nx' ∧ Chg w w' (fun k => k = m ∨ k ∈ e :: l) := by
  have hB1 := (Below.refl w.heap.size w).alloc (Nat.le_refl _) (.cells #[.int .i64 z] 3)
  have hc1 := Blk.new w 3 #[.int .i64 z]
  have h1 := h.fwd hB1
  have hlt := h.lt
  go_enter Tryz.func89, Tryz.ntmps89
  go_upto_region 1 with (fail)
  have z1 := hB1.size
  generalize w.alloc (.cells #[.int .i64 z] 3) = w1 at *
  have hsw := sweepPurge w z h1 w.heap.size hc1 z1 hlt (Nat.le_refl _) hl
  go_wp2_with (go_at_call 171; refine hsw.mono ?_; rintro en w2 ⟨v, bk', nx', rfl, h2, hrow, hC⟩; obtain ⟨A9, c9, rfl, -⟩ := hrow.1.any)
  go_ret
  refine ⟨bk', nx', rfl, h2, ?_⟩
  have hCC : Chg w w2 (fun k => k = m ∨ k ∈ e :: l ∨ w.heap.size ≤ k) := (Chg.of_below hB1).trans hC (fun _ _ q1 => q1)
  exact hCC.mono fun i hi q1 => by
    rcases q1 with q1 | q1 | q1
    · exact .inl q1
    · exact .inr q1
    · omega
end Go.Proofs.YtgdeecmhhbdjgaaGreat

/- flows: a table that no call made. -/
namespace Go.Proofs.YtgdeecmhhbdjgaaGreat
set_option linter.unusedVariables false
open Go Go.RowKit Go.Maps

end Go.Proofs.YtgdeecmhhbdjgaaGreat

/- flows: Put, Peek, Drop of a table that no call made. -/
namespace Go.Proofs.YtgdeecmhhbdjgaaGreat
set_option linter.unusedVariables false
open Go Go.RowKit Go.Maps

end Go.Proofs.YtgdeecmhhbdjgaaGreat

/- flows: a table in plain terms. -/
namespace Go.Proofs.YtgdeecmhhbdjgaaGreat
set_option linter.unusedVariables false
open Go Go.RowKit Go.Maps

def isF (f : Flo) (x : EnV) : Bool := decide (x.fl = f)
def keepF (f : Flo) (E : List EnV) : List EnV := E.filter fun x => !(isF f x)
def putN (ro : Int) (E : List EnV) (f : Flo) (b t : Int) : EnV × Bool × List EnV :=
  if E.any (isF f) = true then (ze, false, keepF f E ++ [⟨f, b, t⟩])
  else if (E.length : Int) < ro then (ze, false, E ++ [⟨f, b, t⟩]) else (E.headD ze, true, E.tail ++ [⟨f, b, t⟩])
def peekN (E : List EnV) (f : Flo) : EnV × Bool :=
  match E.find? (isF f) with
  | some x => (x, true)
  | none => (ze, false)
def getN (E : List EnV) (f : Flo) (t : Int) : Int × Bool × List EnV :=
  match E.find? (isF f) with
  | some x => (x.be, true, keepF f E ++ [{ x with la := t }])
  | none => (0, false, E)
def TabF (w : World) (X : Nat → Prop) (g : Nat) (ro idl now : Int) (n : Nat) (E : List EnV) : Prop :=
  ∃ m e ca we l dt bk nx, RingV w g m e ro idl now ca we l dt bk nx ∧ l.map dt = E ∧ (0 ≤ ca ∧ ca ≤ n) ∧ (0 ≤ we ∧ we ≤ n) ∧ (1 ≤ ro ∧ ro ≤ 1024) ∧ (1 ≤ idl ∧ idl ≤ 1000000) ∧ (0 ≤ now ∧ now ≤ 9223372036854775807) ∧ (E.length : Int) ≤ ro ∧ (∀ k, k = g ∨ k = m ∨ k ∈ e :: l → X k) ∧ ∀ k, X k → k < w.heap.size
section
variable {w w' : World} {X Y : Nat → Prop} {g : Nat} {ro idl now : Int} {n : Nat} {E : List EnV}
theorem TabF.chg (h : TabF w X g ro idl now n E) (hc : Chg w w' Y) (hd : ∀ k, X k → ¬ Y k) : TabF w' X g ro idl now n E := by
  obtain ⟨m, e, ca, we, l, dt, bk, nx, h1, h2, h3, h4, h5, h6, h7, h8, h9, h10⟩ := h
  exact ⟨m, e, ca, we, l, dt, bk, nx, h1.chg hc (hd _ (h9 _ (.inl rfl))) (hd _ (h9 _ (.inr (.inl rfl)))) (fun k hk => hd _ (h9 _ (.inr (.inr hk)))), h2, h3, h4, h5, h6, h7, h8, h9, fun k hk => Nat.lt_of_lt_of_le (h10 k hk) hc.size⟩
theorem TabF.fwd (h : TabF w X g ro idl now n E) (hb : Below w.heap.size w w') : TabF w' X g ro idl now n E := h.chg (Chg.of_below (X := fun _ => False) hb) fun _ _ q => q
theorem TabF.good (h : TabF w X g ro idl now n E) : (1 ≤ ro ∧ ro ≤ 1024) ∧ (1 ≤ idl ∧ idl ≤ 1000000) ∧ (0 ≤ now ∧ now ≤ 9223372036854775807) ∧ (E.length : Int) ≤ ro ∧ ∀ k, X k → k < w.heap.size := by
  obtain ⟨m, e, ca, we, l, dt, bk, nx, h1, h2, h3, h4, h5, h6, h7, h8, h9, h10⟩ := h
  exact ⟨h5, h6, h7, h8, h10⟩
end
section
variable {w : World} {g m e : Nat} {ro idl now ca we : Int} {l : List Nat} {dt : Nat → EnV} {bk nx : Nat → Nat}
theorem RingV.flows (h : RingV w g m e ro idl now ca we l dt bk nx) : (l.map fun k => (dt k).fl).Nodup := by
  obtain ⟨A, ha, hp⟩ := h.ent
  have hn2 : ((l.map (keyE dt)).map Prod.fst).Nodup := (hp.map Prod.fst).nodup_iff.1 ha.nodup
  rw [List.map_map] at hn2
  have key : ∀ l : List Nat, (l.map (Prod.fst ∘ keyE dt)).Nodup → (l.map fun k => (dt k).fl).Nodup := by
    intro l
    induction l with
    | nil => intro _; exact .nil
    | cons c l ih =>
      intro hn
      rw [List.map_cons, List.nodup_cons] at hn ⊢
      refine ⟨fun q => hn.1 ?_, ih hn.2⟩
      obtain ⟨b, hb, e1⟩ := List.mem_map.1 q
      exact List.mem_map.2 ⟨b, hb, show floV (dt b).fl = floV (dt c).fl by rw [e1]⟩
  exact key l hn2
end
theorem any_of {E : List EnV} {f : Flo} : E.any (isF f) = true ↔ ∃ x ∈ E, x.fl = f := by
  rw [List.any_eq_true]
  constructor
  · rintro ⟨x, h1, h2⟩; exact ⟨x, h1, of_decide_eq_true h2⟩
  · rintro ⟨x, h1, h2⟩; exact ⟨x, h1, decide_eq_true h2⟩
theorem isF_no {f : Flo} {x : EnV} (h : x.fl ≠ f) : isF f x = false := decide_eq_false h
theorem isF_yes {f : Flo} {x : EnV} (h : x.fl = f) : isF f x = true := decide_eq_true h
theorem mid_find {f : Flo} {p q : List EnV} {x : EnV} (hx : x.fl = f) (hp : ∀ y ∈ p, y.fl ≠ f) (hq : ∀ y ∈ q, y.fl ≠ f) :
    (p ++ x :: q).find? (isF f) = some x ∧ keepF f (p ++ x :: q) = p ++ q ∧ (p ++ x :: q).any (isF f) = true := by
  refine ⟨?_, ?_, any_of.2 ⟨x, by simp, hx⟩⟩
  · rw [List.find?_append, List.find?_eq_none.2 fun y hy => by rw [isF_no (hp y hy)]; simp, List.find?_cons, isF_yes hx]; rfl
  · have keep : ∀ l : List EnV, (∀ y ∈ l, y.fl ≠ f) → keepF f l = l := fun l h => by
      unfold keepF
      exact List.filter_eq_self.2 fun y hy => by rw [isF_no (h y hy)]; rfl
    unfold keepF
    rw [List.filter_append, List.filter_cons_of_neg (by rw [isF_yes hx]; simp)]
    have h1 := keep p hp
    have h2 := keep q hq
    unfold keepF at h1 h2
    rw [h1, h2]
theorem find_none {f : Flo} {E : List EnV} (h : ∀ y ∈ E, y.fl ≠ f) : E.find? (isF f) = none ∧ E.any (isF f) = false := by
  refine ⟨List.find?_eq_none.2 fun y hy => by rw [isF_no (h y hy)]; simp, ?_⟩
  rw [Bool.eq_false_iff]
  intro q
  obtain ⟨x, hx, e⟩ := any_of.1 q
  exact h x hx e
theorem RingV.cases {w : World} {g m e : Nat} {ro idl now ca we : Int} {l : List Nat} {dt : Nat → EnV} {bk nx : Nat → Nat} (h : RingV w g m e ro idl now ca we l dt bk nx) (f : Flo) :
    (∀ k ∈ l, (dt k).fl ≠ f) ∨ ∃ p x q, l = p ++ x :: q ∧ (dt x).fl = f ∧ x ∉ p ∧ x ∉ q ∧ (∀ y ∈ p.map dt, y.fl ≠ f) ∧ ∀ y ∈ q.map dt, y.fl ≠ f := by
  by_cases hm : ∃ k ∈ l, (dt k).fl = f
  · obtain ⟨x, hx, hxf⟩ := hm
    obtain ⟨p, q, rfl⟩ := mem_split hx
    have hn := h.flows
    rw [List.map_append, List.map_cons, List.nodup_append, List.nodup_cons] at hn
    obtain ⟨n1, ⟨n2, n3⟩, n4⟩ := hn
    have hp : ∀ k ∈ p, (dt k).fl ≠ f := fun k hk e1 => n4 _ (List.mem_map.2 ⟨k, hk, rfl⟩) _ (by simp) (e1.trans hxf.symm)
    have hq : ∀ k ∈ q, (dt k).fl ≠ f := fun k hk e1 => n2 (List.mem_map.2 ⟨k, hk, e1.trans hxf.symm⟩)
    refine .inr ⟨p, x, q, rfl, hxf, fun e1 => hp x e1 hxf, fun e1 => hq x e1 hxf, fun y hy => ?_, fun y hy => ?_⟩
    · obtain ⟨k, hk, rfl⟩ := List.mem_map.1 hy; exact hp k hk
    · obtain ⟨k, hk, rfl⟩ := List.mem_map.1 hy; exact hq k hk
  · exact .inl fun k hk e1 => hm ⟨k, hk, e1⟩
theorem map_upd {l : List Nat} {x : Nat} (h : x ∉ l) (dt : Nat → EnV) (en : EnV) : l.map (upd dt x en) = l.map dt := List.map_congr_left fun k hk => upd_other _ _ fun e1 => h (e1 ▸ hk)
theorem newFX (w : World) (ro idl : Int) (h1 : 1 ≤ ro) (h2 : ro ≤ 1024) (h3 : 1 ≤ idl) (h4 : idl ≤ 1000000) :
    Calls Tryz.prog 107 #[.int .i64 ro, .int .i64 idl] w fun en w' => ∃ g X, en = .returned (.pointer (some ⟨g, 0, none⟩)) ∧ TabF w' X g ro idl 0 0 [] ∧ (∀ k, X k → w.heap.size ≤ k) ∧ Below w.heap.size w w' := by
  refine (newF_in w ro idl h1 h2 h3 h4).mono ?_
  rintro en w' ⟨g, m, e, rfl, hT, hg, hm, he, hB⟩
  have hlt := hT.lt
  refine ⟨g, fun k => k = g ∨ k = m ∨ k = e, rfl, ⟨m, e, 0, 0, [], _, _, _, hT, rfl, by simp, by simp, ⟨h1, h2⟩, ⟨h3, h4⟩, by simp, by simp; omega, fun k hk => ?_, fun k hk => ?_⟩, fun k hk => ?_, hB⟩
  · simpa using hk
  · rcases hk with rfl | rfl | rfl
    · exact hlt.1
    · exact hlt.2.1
    · exact hlt.2.2 _ (by simp)
  · rcases hk with rfl | rfl | rfl <;> assumption
theorem lenFX {w : World} {X : Nat → Prop} {g : Nat} {ro idl now : Int} {n : Nat} {E : List EnV} (h : TabF w X g ro idl now n E) : Calls Tryz.prog 133 #[.pointer (some ⟨g, 0, none⟩)] w fun en w' => en = .returned (.int .i64 E.length) ∧ w = w' := by
  obtain ⟨m, e, ca, we, l, dt, bk, nx, h1, h2, h3, h4, h5, h6, h7, h8, h9, h10⟩ := h
  refine (lenF_in h1).mono ?_
  rintro en w' ⟨rfl, rfl⟩
  exact ⟨by rw [← h2, List.length_map], rfl⟩
theorem foot_filter {X : Nat → Prop} {g m e : Nat} {l : List Nat} (h9 : ∀ k, k = g ∨ k = m ∨ k ∈ e :: l → X k) (so : Nat → Bool) : ∀ k, k = g ∨ k = m ∨ k ∈ e :: l.filter so → X k := fun k hk => h9 k (by
  rcases hk with q1 | q1 | q1
  · exact .inl q1
  · exact .inr (.inl q1)
  · refine .inr (.inr ?_)
    rcases List.mem_cons.1 q1 with q2 | q2
    · rw [q2]; simp
    · exact List.mem_cons_of_mem _ (List.mem_filter.1 q2).1)
theorem map_filter_dt (l : List Nat) (dt : Nat → EnV) (so : EnV → Bool) : (l.filter fun k => so (dt k)).map dt = (l.map dt).filter so := by
  rw [List.filter_map]; rfl
theorem purgeFX {w : World} {X : Nat → Prop} {g : Nat} {ro idl now : Int} {n : Nat} {E : List EnV} (h : TabF w X g ro idl now n E) (z : Int) : Calls Tryz.prog 89 #[.pointer (some ⟨g, 0, none⟩), .int .i64 z] w fun en w' => en = .returned (.int .i64 (E.filter (soB z)).length) ∧ TabF w' X g ro idl now n (E.filter fun x => !(soB z x)) ∧ Chg w w' X := by
  obtain ⟨m, e, ca, we, l, dt, bk, nx, h1, h2, h3, h4, h5, h6, h7, h8, h9, h10⟩ := h
  have hll : l.length = E.length := by rw [← h2, List.length_map]
  refine (purgeF_in h1 z (by omega)).mono ?_
  rintro en w' ⟨bk', nx', rfl, h1', hC⟩
  have e1 := map_filter_dt l dt (soB z)
  have e2 := map_filter_dt l dt (fun x => !(soB z x))
  rw [h2] at e1 e2
  refine ⟨by rw [← e1, List.length_map], ⟨m, e, ca, we, _, _, _, _, h1', e2, h3, h4, h5, h6, h7, ?_, foot_filter h9 _, fun k hk => Nat.lt_of_lt_of_le (h10 k hk) hC.size⟩, hC.mono fun i _ q1 => h9 i (.inr q1)⟩
  have := List.length_filter_le (fun x => !(soB z x)) E
  omega
theorem putFX {w : World} {X : Nat → Prop} {g : Nat} {ro idl now : Int} {n : Nat} {E : List EnV} (h : TabF w X g ro idl now n E) (f : Flo) (hf : FloOk f) (b t : Int) (ht : t ≤ 9223372036854775807) (hn : n ≤ 1000000) : Calls Tryz.prog 39 #[.pointer (some ⟨g, 0, none⟩), .agg #[.int .i64 f.pr, .int .u32 f.src, .int .u32 f.dst, .int .i64 f.sp, .int .i64 f.dp], .int .i64 b, .int .i64 t] w fun en w' => en = .returned (.tuple #[enA (putN ro E f b (max now t)).1, .bool (putN ro E f b (max now t)).2.1]) ∧ TabF w' (fun k => X k ∨ (w.heap.size ≤ k ∧ k < w'.heap.size)) g ro idl (max now t) (n + 1) (putN ro E f b (max now t)).2.2 ∧ Chg w w' X := by
  obtain ⟨m, e, ca, we, l, dt, bk, nx, h1, h2, h3, h4, h5, h6, h7, h8, h9, h10⟩ := h
  have hll : l.length = E.length := by rw [← h2, List.length_map]
  rcases h1.cases f with hno | ⟨p, x, q, rfl, hx, hxp, hxq, hp, hq⟩
  · have hnE : ∀ y ∈ E, y.fl ≠ f := fun y hy => by rw [← h2] at hy; obtain ⟨k, hk, rfl⟩ := List.mem_map.1 hy; exact hno k hk
    refine (putF_miss h1 f hf b t hno h5.1 (by omega) (by omega)).mono ?_
    rintro en w' ⟨gv, md, l', we', kb, bk', nx', rfl, hsp, hkb, h1', hC⟩
    have hz := hC.size
    have hlt := h1'.lt
    have hspE : putN ro E f b (max now t) = (gv, md, l'.map dt ++ [⟨f, b, max now t⟩]) ∧ (∀ k ∈ l', k ∈ l) ∧ ((l'.length : Int) + 1 ≤ ro) ∧ (0 ≤ we' ∧ we' ≤ (n + 1 : Nat)) := by
      unfold putN
      rw [if_neg (by rw [(find_none hnE).2]; simp)]
      rcases hsp with ⟨q1, rfl, rfl, rfl, rfl⟩ | ⟨q1, x, rfl, rfl, rfl, rfl⟩
      · rw [if_pos (by omega), h2]
        exact ⟨rfl, fun k hk => hk, by omega, by omega⟩
      · rw [if_neg (by omega), ← h2]
        refine ⟨rfl, fun k hk => List.mem_cons_of_mem _ hk, ?_, by omega⟩
        rw [List.length_cons] at hll
        omega
    obtain ⟨hspE, hsub, hlen, hwe⟩ := hspE
    rw [hspE]
    have hkb2 : kb ∉ l' := by
      have := h1'.nd
      rw [List.nodup_cons, List.nodup_append] at this
      exact fun q1 => this.2.2.2 kb q1 kb (by simp) rfl
    refine ⟨rfl, ⟨m, e, ca + 1, we', _, _, _, _, h1', ?_, by omega, hwe, h5, h6, by omega, ?_, fun k hk => ?_, fun k hk => ?_⟩, hC.mono fun i _ q1 => h9 i q1⟩
    · rw [List.map_append, map_upd hkb2]; simp [upd_same]
    · rw [List.length_append, List.length_map, List.length_singleton]; omega
    · rcases hk with q1 | q1 | q1
      · exact .inl (h9 k (.inl q1))
      · exact .inl (h9 k (.inr (.inl q1)))
      · rcases List.mem_cons.1 q1 with q2 | q2
        · exact .inl (h9 k (.inr (.inr (by rw [q2]; simp))))
        · rcases List.mem_append.1 q2 with q2 | q2
          · exact .inl (h9 k (.inr (.inr (List.mem_cons_of_mem _ (hsub k q2)))))
          · have : k = kb := by simpa using q2
            exact .inr ⟨by omega, hlt.2.2 k q1⟩
    · rcases hk with q1 | q1
      · exact Nat.lt_of_lt_of_le (h10 k q1) hz
      · exact q1.2
  · have hmid := mid_find hx hp hq
    have e1 : putN ro E f b (max now t) = (ze, false, p.map dt ++ q.map dt ++ [⟨f, b, max now t⟩]) := by
      unfold putN
      rw [← h2, List.map_append, List.map_cons, if_pos hmid.2.2, hmid.2.1]
    rw [e1]
    refine (putF_hit h1 f hf b t hx).mono ?_
    rintro en w' ⟨rfl, h1', hC⟩
    have hE : E.length = p.length + (q.length + 1) := by rw [← h2, List.length_map, List.length_append, List.length_cons]
    refine ⟨rfl, ⟨m, e, ca, we, _, _, _, _, h1', ?_, by omega, by omega, h5, h6, by omega, ?_, fun k hk => .inl (h9 k ?_), fun k hk => ?_⟩, hC.mono fun i _ q1 => h9 i (q1.elim .inl fun q2 => .inr (.inr q2))⟩
    · rw [List.map_append, List.map_append, map_upd hxp, map_upd hxq]
      simp [upd_same]
    · rw [List.length_append, List.length_append, List.length_map, List.length_map, List.length_singleton]; omega
    · rcases hk with q1 | q1 | q1
      · exact .inl q1
      · exact .inr (.inl q1)
      · refine .inr (.inr ?_)
        rcases List.mem_cons.1 q1 with q2 | q2
        · rw [q2]; simp
        · refine List.mem_cons_of_mem _ ?_
          simp at q2 ⊢
          rcases q2 with q2 | q2 | q2 <;> simp [q2]
    · rcases hk with q1 | q1
      · exact Nat.lt_of_lt_of_le (h10 k q1) hC.size
      · exact q1.2
end Go.Proofs.YtgdeecmhhbdjgaaGreat
