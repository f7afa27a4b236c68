/- probe: atomic numbers in a run of one goroutine. -/
import Derived.Test.YtejgekoinbdhjaaPrD
import Derived.Laws.LoneSync
namespace Go.Proofs.Ytejgekoinbdhjaa
set_option linter.unusedVariables false
open Go Go.RowKit Go.Maps Go.Shelf

set_option maxRecDepth 100000 in
theorem atAdd_any (w : World) (g o : Nat) (T : TypeId) (cs : Array Value) (x : Int) (h : Blk w g T cs) (ho : cs[o]? = some (.int .i64 x)) (hx : 0 ≤ x ∧ x ≤ 2000000000) :
    Calls Try.prog 182 #[.pointer (some ⟨g, o, none⟩), .int .i64 1] w fun e w' => e = .returned (.int .i64 (x + 1)) ∧ Blk w' g T (cs.setIfInBounds o (.int .i64 (x + 1))) ∧ w.grownBy w' (some g) := by
  have hc : w.cell? ⟨g, o, none⟩ = some (.int .i64 x) := h.cellv o ho
  have hz := h.frozen o
  have hadd := run_call_add (P := Try.prog) Try.func194 (by kernel_rfl) (by kernel_rfl) (by kernel_rfl) .i64 (by kernel_rfl) (y := 1) (s := x + 1) hc hz (by
    have e : IntKind.i64.wrap (x + 1) = x + 1 := IntWalk.i64_in _ (by omega)
    simp [Op.intArith, e])
  obtain ⟨h1, h2⟩ := blk_store h o (.int .i64 (x + 1))
  go_enter Try.func182, Try.ntmps182
  go_wp2_with fail
  go_ret
  exact ⟨rfl, h1, h2⟩
set_option maxRecDepth 100000 in
theorem atLoad_any (w : World) (g o : Nat) (T : TypeId) (cs : Array Value) (x : Int) (h : Blk w g T cs) (ho : cs[o]? = some (.int .i64 x)) :
    Calls Try.prog 158 #[.pointer (some ⟨g, o, none⟩)] w fun e w' => e = .returned (.int .i64 x) ∧ w = w' := by
  have hc : w.cell? ⟨g, o, none⟩ = some (.int .i64 x) := h.cellv o ho
  have hl := run_call_load (P := Try.prog) Try.func186 (by kernel_rfl) (by kernel_rfl) (by kernel_rfl) .i64 (by kernel_rfl) hc
  go_enter Try.func158, Try.ntmps158
  go_wp2_with fail
  go_ret
  exact ⟨rfl, rfl⟩
set_option maxRecDepth 100000 in
theorem atStore_any (w : World) (g o : Nat) (T : TypeId) (cs : Array Value) (x y : Int) (h : Blk w g T cs) (ho : cs[o]? = some (.int .i64 y)) :
    Calls Try.prog 157 #[.pointer (some ⟨g, o, none⟩), .int .i64 x] w fun e w' => e = .returned (.tuple #[]) ∧ Blk w' g T (cs.setIfInBounds o (.int .i64 x)) ∧ w.grownBy w' (some g) := by
  have hc : w.cell? ⟨g, o, none⟩ = some (.int .i64 y) := h.cellv o ho
  have hz := h.frozen o
  have hl := run_call_store (P := Try.prog) Try.func185 (by kernel_rfl) (by kernel_rfl) (by kernel_rfl) (by kernel_rfl) (k := .i64) (y := x) hc hz
  obtain ⟨h1, h2⟩ := blk_store h o (.int .i64 x)
  go_enter Try.func157, Try.ntmps157
  go_wp2_with fail
  go_end0
  exact ⟨rfl, h1, h2⟩
/-- in the midst of a round that began at W: B where the loop begins. -/
structure Mid (w : World) (g bn bw sB lB Bs B : Nat) (ev pa no : Int) (W Wx : World) (v : Value) (s : PS) : Prop where
  pro : ProV Wx g bn bw ev pa no s.sq s.fn s.fw
  sbox : Boxed Wx sB 126 (.pointer (some ⟨g, 0, none⟩))
  ibox : Boxed Wx Bs 126 (.pointer (some ⟨g, 0, none⟩))
  lbox : Boxed Wx lB 128 v
  row : Rows prK Wx w.heap.size w.heap.size 134 v s.l
  chg : Chg w Wx (fun k => k = g ∨ k = bn ∨ k = bw)
  keep : KeepI g bn Bs W Wx
  from_ : KeepsFrom B W Wx
section
variable {w W Wx Wy : World} {g bn bw B : Nat} {ev pa no : Int} {v : Value} {s : PS}
theorem Mid.start {sq0 : Int} {ks : List Int} {st : PS → Int → PS} {s0 : PS} {pre : List (Int × Int)} (h : LoopI w g bn bw w.heap.size (w.heap.size + 1) ev pa no sq0 ks st s0 (w.heap.size + 1 + 1) v pre W) : Mid w g bn bw w.heap.size (w.heap.size + 1) (w.heap.size + 1 + 1) B ev pa no W W v ((pre.map Prod.fst).foldl st s0) :=
  ⟨h.pro, h.sbox, h.ibox, h.lbox, h.row, h.chg, KeepI.refl _ _ _ _, KeepsFrom.refl _ _⟩
theorem Mid.done {sq0 : Int} {ks : List Int} {st : PS → Int → PS} {s0 : PS} {pre : List (Int × Int)} (h : Mid w g bn bw w.heap.size (w.heap.size + 1) (w.heap.size + 1 + 1) B ev pa no W Wx v ((pre.map Prod.fst).foldl st s0)) (hok : PSok no sq0 pre.length ((pre.map Prod.fst).foldl st s0)) : LoopI w g bn bw w.heap.size (w.heap.size + 1) ev pa no sq0 ks st s0 (w.heap.size + 1 + 1) v pre Wx :=
  ⟨h.pro, h.sbox, h.ibox, h.lbox, h.row, hok, h.chg⟩
theorem Mid.out (h : Mid w g bn bw w.heap.size (w.heap.size + 1) (w.heap.size + 1 + 1) B ev pa no W Wx v s) : w.heap.size + 1 + 1 < Wx.heap.size := h.ibox.lt
/-- a block that has changed is one of the loop's. -/
theorem Mid.chgs {X : Nat → Prop} {s' : PS} (h : Mid w g bn bw w.heap.size (w.heap.size + 1) (w.heap.size + 1 + 1) B ev pa no W Wx v s) (hc : Chg Wx Wy X) (hX : ∀ k, X k → k < w.heap.size ∧ k < B ∧ (k = g ∨ k = bn ∨ k = bw)) (hsl : s'.l = s.l) (hpro : ProV Wy g bn bw ev pa no s'.sq s'.fn s'.fw) (hk : KeepI g bn (w.heap.size + 1 + 1) Wx Wy) : Mid w g bn bw w.heap.size (w.heap.size + 1) (w.heap.size + 1 + 1) B ev pa no W Wy v s' :=
  ⟨hpro, (hc.block _ h.sbox.lt fun q => by have := (hX _ q).1; omega).trans h.sbox, (hc.block _ h.ibox.lt fun q => by have := (hX _ q).1; omega).trans h.ibox, (hc.block _ h.lbox.lt fun q => by have := (hX _ q).1; omega).trans h.lbox,
    by rw [hsl]; exact ⟨hc.own h.row.1 fun k hk q => by have := (h.row.1.lt k hk).1; have := (hX _ q).1; omega, fun _ _ => trivial⟩, h.chg.trans hc fun i _ q => (hX i q).2.2, h.keep.trans hk, h.from_.trans (keepsFrom_of hc fun k q => .inl (hX k q).2.1)⟩
theorem Mid.nx (h : Mid w g bn bw w.heap.size (w.heap.size + 1) (w.heap.size + 1 + 1) B ev pa no W Wx v s) (hb : Below Wx.heap.size Wx Wy) : Mid w g bn bw w.heap.size (w.heap.size + 1) (w.heap.size + 1 + 1) B ev pa no W Wy v s := by
  have hc : Chg Wx Wy (fun _ => False) := Chg.of_below hb
  exact h.chgs hc (fun _ q => q.elim) rfl (h.pro.nx hb) (keepI_of hc h.ibox.lt (fun q => q) h.pro.lt.1 (fun q => q) (fun q => q) fun _ q => q.elim)
theorem Mid.putW {fw' : Int → Option (Int × Int)} (h : Mid w g bn bw w.heap.size (w.heap.size + 1) (w.heap.size + 1 + 1) B ev pa no W Wx v s) (hlt : bw < w.heap.size) (hB : w.heap.size ≤ B) (hg : Wx.grownBy Wy (some bw)) (hw : FMap aV Wy bw fw') : Mid w g bn bw w.heap.size (w.heap.size + 1) (w.heap.size + 1 + 1) B ev pa no W Wy v { s with fw := fw' } := by
  have hc : Chg Wx Wy (fun k => k = bw) := Chg.of_grown hg rfl
  exact h.chgs hc (fun k q => by subst q; exact ⟨hlt, by omega, .inr (.inr rfl)⟩) rfl ⟨hc.blk h.pro.blk h.pro.gw, h.pro.en.chg hc h.pro.ne, hw, h.pro.ne⟩ (keepI_of hc h.ibox.lt (by omega) h.pro.lt.1 h.pro.gw h.pro.ne fun k q => by subst q; exact fun vs fz => h.pro.ew.no_cells _ _ _)
theorem Mid.putN {fn' : Int → Option Int} (h : Mid w g bn bw w.heap.size (w.heap.size + 1) (w.heap.size + 1 + 1) B ev pa no W Wx v s) (hlt : bn < w.heap.size) (hB : w.heap.size ≤ B) (hg : Wx.grownBy Wy (some bn)) (hn : FMap nV Wy bn fn') : Mid w g bn bw w.heap.size (w.heap.size + 1) (w.heap.size + 1 + 1) B ev pa no W Wy v { s with fn := fn' } := by
  have hc : Chg Wx Wy (fun k => k = bn) := Chg.of_grown hg rfl
  refine h.chgs hc (fun k q => by subst q; exact ⟨hlt, by omega, .inr (.inl rfl)⟩) rfl ⟨hc.blk h.pro.blk h.pro.gn, hn, h.pro.ew.chg hc (fun e => h.pro.ne e.symm), h.pro.ne⟩ ?_
  exact ⟨hc.size, fun k vs fz q => hc.block k (Array.getElem?_eq_some_iff.1 q).1 (fun e => by subst e; exact h.pro.en.no_cells _ _ _ q), hc.block _ h.ibox.lt (by omega), hc.cell (p := ⟨g, 4, none⟩) h.pro.lt.1 h.pro.gn, fun _ _ => ⟨_, hn⟩⟩
theorem Mid.putG {sq' : Int} (h : Mid w g bn bw w.heap.size (w.heap.size + 1) (w.heap.size + 1 + 1) B ev pa no W Wx v s) (hlt : g < w.heap.size) (hB : w.heap.size ≤ B) (hg : Wx.grownBy Wy (some g)) (hb : Blk Wy g 125 #[.int .i64 ev, .int .i64 pa, .int .i64 no, .int .i64 sq', .map (some bn), .map (some bw)]) : Mid w g bn bw w.heap.size (w.heap.size + 1) (w.heap.size + 1 + 1) B ev pa no W Wy v { s with sq := sq' } := by
  have hc : Chg Wx Wy (fun k => k = g) := Chg.of_grown hg rfl
  refine h.chgs hc (fun k q => by subst q; exact ⟨hlt, by omega, .inl rfl⟩) rfl ⟨hb, h.pro.en.chg hc (fun e => h.pro.gn e.symm), h.pro.ew.chg hc (fun e => h.pro.gw e.symm), h.pro.ne⟩ ?_
  refine ⟨hc.size, fun k vs fz q => hc.block k (Array.getElem?_eq_some_iff.1 q).1 (fun e => ?_), hc.block _ h.ibox.lt (by omega), (hb.cellv 4 rfl).trans (h.pro.blk.cellv 4 rfl).symm, fun fn q => ⟨fn, q.chg hc (fun e => by subst e; have := h.pro.blk; exact q.no_cells _ _ _ this)⟩⟩
  subst e
  have q2 := h.pro.blk
  unfold Blk at q2
  rw [q2] at q
  injection q with q
  injection q with _ q _
  exact absurd q (by decide)
/-- behind the append and the store of the list. -/
theorem Mid.app {w8 : World} {v8 : Value} {l' : List (Int × Int)} (h : Mid w g bn bw w.heap.size (w.heap.size + 1) (w.heap.size + 1 + 1) B ev pa no W Wx v s) (hw : w.heap.size ≤ Wx.heap.size) (hrow : Rows prK w8 w.heap.size w.heap.size 134 v8 l') (hg : Wx.grownBy w8 v.ownBlock) :
    Mid w g bn bw w.heap.size (w.heap.size + 1) (w.heap.size + 1 + 1) B ev pa no W (w8.setCell ⟨w.heap.size + 1, 0, none⟩ v8) v8 { s with l := l' } := by
  have own : ∀ k, v.ownBlock = some k → w.heap.size ≤ k ∧ ∃ vs fz, Wx.heap[k]? = some (Obj.cells vs 134 fz) := fun k e => ⟨(h.row.1.lt k e).1, own_cells h.row.1 e⟩
  have nbox : ∀ k T u, Boxed Wx k T u → T ≠ 134 → v.ownBlock ≠ some k := fun k T u hb hT e => by
    obtain ⟨vs, fz, q⟩ := (own k e).2
    rw [show Wx.heap[k]? = some (.cells #[u] T (0, 0)) from hb] at q
    injection q with q
    injection q with _ q _
    exact hT q
  have hlb8 : Boxed w8 (w.heap.size + 1) 128 v := h.lbox.kept hg (fun e => nbox _ _ _ h.lbox (by decide) e.symm)
  obtain ⟨hl9, hg9⟩ := blk_store (show Blk w8 (w.heap.size + 1) 128 #[v] from hlb8) 0 v8
  have hne8 : v8.ownBlock ≠ some (w.heap.size + 1) := fun e => by
    obtain ⟨vs, fz, q⟩ := own_cells hrow.1 e
    rw [show w8.heap[w.heap.size + 1]? = some (.cells #[v] 128 (0, 0)) from hlb8] at q
    injection q with q
    injection q with _ q _
    exact absurd q (by decide)
  have hC : Chg Wx (w8.setCell ⟨w.heap.size + 1, 0, none⟩ v8) (fun k => k = w.heap.size + 1 ∨ v.ownBlock = some k) :=
    ((Chg.of_grownO (X := fun k => v.ownBlock = some k) hg fun _ e => e).mono fun _ _ q => .inr q).trans (Chg.of_grown (X := fun k => k = w.heap.size + 1) hg9 rfl) fun _ _ q => .inl q
  have nX : ∀ k, k = w.heap.size + 1 ∨ v.ownBlock = some k → w.heap.size ≤ k ∧ ∃ vs T fz, Wx.heap[k]? = some (Obj.cells vs T fz) ∧ (T = 128 ∨ T = 134) := fun k q => by
    rcases q with q | q
    · subst q; exact ⟨by omega, _, _, _, h.lbox, .inl rfl⟩
    · obtain ⟨q1, vs, fz, q2⟩ := own k q
      exact ⟨q1, vs, _, fz, q2, .inr rfl⟩
  have nT : ∀ (k : Nat) (T : TypeId) (vs : Array Value) (fz : Nat × Nat), Wx.heap[k]? = some (Obj.cells vs T fz) → T ≠ 128 → T ≠ 134 → ¬ (k = w.heap.size + 1 ∨ v.ownBlock = some k) := fun k T vs fz e h1 h2 q => by
    obtain ⟨-, vs', T', fz', e', hT⟩ := nX k q
    rw [e] at e'
    injection e' with e'
    injection e' with _ e' _
    rcases hT with rfl | rfl
    · exact h1 e'
    · exact h2 e'
  have nM : ∀ {V : Type} {enc : V → Value} {b : Nat} {f : Int → Option V}, FMap enc Wx b f → ¬ (b = w.heap.size + 1 ∨ v.ownBlock = some b) := fun hm q => by
    obtain ⟨-, vs', T', fz', e', hT⟩ := nX _ q
    exact hm.no_cells _ _ _ e'
  have nG : ¬ (g = w.heap.size + 1 ∨ v.ownBlock = some g) := nT g _ _ _ h.pro.blk (by decide) (by decide)
  refine ⟨h.pro.chg hC nG (nM h.pro.en) (nM h.pro.ew), (hC.block _ h.sbox.lt (nT _ _ _ _ h.sbox (by decide) (by decide))).trans h.sbox, (hC.block _ h.ibox.lt (nT _ _ _ _ h.ibox (by decide) (by decide))).trans h.ibox, hl9,
    ⟨hrow.1.kept hg9 (.inr hne8), fun _ _ => trivial⟩, h.chg.trans hC fun i hi q => by have := (nX i q).1; omega, h.keep.trans ?_, h.from_.trans ?_⟩
  · exact keepI_of hC h.ibox.lt (nT _ _ _ _ h.ibox (by decide) (by decide)) h.pro.lt.1 nG (nM h.pro.en) fun k q vs fz e => nT k _ _ _ e (by decide) (by decide) q
  · exact keepsFrom_of hC fun k q => by
      obtain ⟨-, vs', T', fz', e', -⟩ := nX k q
      exact .inr ⟨vs', T', fz', e'⟩
end
end Go.Proofs.Ytejgekoinbdhjaa
