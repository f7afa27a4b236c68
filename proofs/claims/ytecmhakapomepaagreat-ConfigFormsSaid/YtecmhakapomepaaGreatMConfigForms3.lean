import Derived.Test.YtecmhakapomepaaGreatMConfigForms1
import Derived.Test.YtecmhakapomepaaGreatMConfigForms2
import Derived.BigGuardPart
import Derived.Deep.Cut
import Derived.WalkSpells
import Derived.DeepKeys4
import Derived.BigRegion
/- flows: the keys of the map. -/
namespace Go.Proofs.YtecmhakapomepaaGreat
set_option linter.unusedVariables false
open Go Go.RowKit Go.Maps

/-- a flow. -/
structure Flo where
  pr : Int
  src : Int
  dst : Int
  sp : Int
  dp : Int
deriving DecidableEq
def floV (f : Flo) : Value := .agg #[.int .i64 f.pr, .int .u32 f.src, .int .u32 f.dst, .int .i64 f.sp, .int .i64 f.dp]
def FloOk (f : Flo) : Prop := (Lit.int .i64 f.pr).wf = true ∧ (Lit.int .u32 f.src).wf = true ∧ (Lit.int .u32 f.dst).wf = true ∧ (Lit.int .i64 f.sp).wf = true ∧ (Lit.int .i64 f.dp).wf = true
theorem fkey : Keyed Tryz.prog 210 := Keyed.of_law (deep_law_laid (m := 3) (by kernel_rfl) (by decide) (of_decide_eq_true (by kernel_rfl)) (by kernel_rfl) (by kernel_rfl))
theorem fmap_und : Tryz.prog.underlying 215 = some (.map 210 208) := Tryz.underlying215
@[go_sem] theorem make_fmap (w : World) : (Instr.makeMap 215 none).run Tryz.prog w = .ok (.map (some w.heap.size)) (w.alloc (.map #[] 0)) := rfl
theorem flink_zero (w : World) : (zeroValue 208).run Tryz.prog w = .ok (.pointer none) w := by kernel_rfl
theorem keyLits_int {d : Nat} {t : TypeId} {q : IntKind} (h : Tryz.prog.underlying t = some (.int q)) {n : Int} (hw : (Lit.int q n).wf = true) : Tryz.prog.keyLits (d + 1) t [.int q n] = some [.int q n] := by
  unfold Program.keyLits
  simp [h, hw]
theorem flo_lit (f : Flo) (h : FloOk f) : ∃ kl, keyOf Tryz.prog 210 (floV f) = some kl := by
  obtain ⟨h1, h2, h3, h4, h5⟩ := h
  have hs : ∃ m, Tryz.prog.types.size = m + 2 := ⟨Tryz.prog.types.size - 2, by kernel_rfl⟩
  obtain ⟨m, hm⟩ := hs
  have hkt : Tryz.prog.keyType 210 = true := by kernel_rfl
  have c5 : Tryz.prog.cellsOf 210 = 5 := by kernel_rfl
  have c1 : Tryz.prog.cellsOf 3 = 1 := by kernel_rfl
  have c2 : Tryz.prog.cellsOf 22 = 1 := by kernel_rfl
  unfold keyOf
  simp only [Tryz.underlying210]
  rw [if_pos (by simp [hkt, floV, Value.formed, Tryz.underlying210, c5]), hm]
  unfold Program.keyLits
  simp only [Tryz.underlying210, Value.cells, floV]
  rw [if_pos ⟨by rw [c5]; rfl, by kernel_rfl⟩]
  simp only [List.mapM_cons, List.mapM_nil, c1, c2]
  simp [keyLits_int Tryz.underlying3, keyLits_int Tryz.underlying22, h1, h2, h3, h4, h5]
end Go.Proofs.YtecmhakapomepaaGreat

/- flows: links, out. -/
namespace Go.Proofs.YtecmhakapomepaaGreat
set_option linter.unusedVariables false
open Go Go.RowKit Go.Maps

/-- an entry. -/
structure EnV where
  fl : Flo
  be : Int
  la : Int
deriving DecidableEq
def lnkC (e : EnV) (b n : Nat) : Array Value := #[.int .i64 e.fl.pr, .int .u32 e.fl.src, .int .u32 e.fl.dst, .int .i64 e.fl.sp, .int .i64 e.fl.dp, .int .i64 e.be, .int .i64 e.la, .pointer (some ⟨b, 0, none⟩), .pointer (some ⟨n, 0, none⟩)]
/-- the blocks of N are links: what they hold, who is ahead, who behind. -/
def Nod (w : World) (N : List Nat) (dt : Nat → EnV) (bk nx : Nat → Nat) : Prop := ∀ k ∈ N, Blk w k 214 (lnkC (dt k) (bk k) (nx k))
def upd {α : Type} (f : Nat → α) (a : Nat) (b : α) : Nat → α := fun k => if k = a then b else f k
theorem upd_same {α : Type} (f : Nat → α) (a : Nat) (b : α) : upd f a b a = b := by unfold upd; rw [if_pos rfl]
theorem upd_other {α : Type} (f : Nat → α) {a k : Nat} (b : α) (h : k ≠ a) : upd f a b k = f k := by unfold upd; rw [if_neg h]
section
variable {w w' : World} {N : List Nat} {dt : Nat → EnV} {bk nx : Nat → Nat}
theorem Nod.next (h : Nod w N dt bk nx) {b : Nat} (hb : b ∈ N) (n : Nat) : Nod (w.setCell ⟨b, 8, none⟩ (.pointer (some ⟨n, 0, none⟩))) N dt bk (upd nx b n) ∧ w.grownBy (w.setCell ⟨b, 8, none⟩ (.pointer (some ⟨n, 0, none⟩))) (some b) := by
  obtain ⟨h1, h2⟩ := blk_store (h b hb) 8 (.pointer (some ⟨n, 0, none⟩))
  refine ⟨fun k hk => ?_, h2⟩
  by_cases e : k = b
  · subst e
    rw [upd_same]
    exact h1
  · rw [upd_other _ _ e]
    exact (h k hk).grown h2 (by simpa using e)
theorem Nod.back (h : Nod w N dt bk nx) {b : Nat} (hb : b ∈ N) (n : Nat) : Nod (w.setCell ⟨b, 7, none⟩ (.pointer (some ⟨n, 0, none⟩))) N dt (upd bk b n) nx ∧ w.grownBy (w.setCell ⟨b, 7, none⟩ (.pointer (some ⟨n, 0, none⟩))) (some b) := by
  obtain ⟨h1, h2⟩ := blk_store (h b hb) 7 (.pointer (some ⟨n, 0, none⟩))
  refine ⟨fun k hk => ?_, h2⟩
  by_cases e : k = b
  · subst e
    rw [upd_same]
    exact h1
  · rw [upd_other _ _ e]
    exact (h k hk).grown h2 (by simpa using e)
theorem Nod.last (h : Nod w N dt bk nx) {b : Nat} (hb : b ∈ N) (z : Int) : Nod (w.setCell ⟨b, 6, none⟩ (.int .i64 z)) N (upd dt b { dt b with la := z }) bk nx ∧ w.grownBy (w.setCell ⟨b, 6, none⟩ (.int .i64 z)) (some b) := by
  obtain ⟨h1, h2⟩ := blk_store (h b hb) 6 (.int .i64 z)
  refine ⟨fun k hk => ?_, h2⟩
  by_cases e : k = b
  · subst e
    rw [upd_same]
    exact h1
  · rw [upd_other _ _ e]
    exact (h k hk).grown h2 (by simpa using e)
theorem Nod.be (h : Nod w N dt bk nx) {b : Nat} (hb : b ∈ N) (z : Int) : Nod (w.setCell ⟨b, 5, none⟩ (.int .i64 z)) N (upd dt b { dt b with be := z }) bk nx ∧ w.grownBy (w.setCell ⟨b, 5, none⟩ (.int .i64 z)) (some b) := by
  obtain ⟨h1, h2⟩ := blk_store (h b hb) 5 (.int .i64 z)
  refine ⟨fun k hk => ?_, h2⟩
  by_cases e : k = b
  · subst e
    rw [upd_same]
    exact h1
  · rw [upd_other _ _ e]
    exact (h k hk).grown h2 (by simpa using e)
end
def tabC (room idle now : Int) (m e : Nat) (came went : Int) : Array Value := #[.int .i64 room, .int .i64 idle, .int .i64 now, .map (some m), .pointer (some ⟨e, 0, none⟩), .int .i64 came, .int .i64 went]
end Go.Proofs.YtecmhakapomepaaGreat

/- flows: rings, in plain terms. -/
namespace Go.Proofs.YtecmhakapomepaaGreat
set_option linter.unusedVariables false

/-- one behind the other. -/
def LnkL (bk nx : Nat → Nat) : List Nat → Prop
  | a :: b :: r => nx a = b ∧ bk b = a ∧ LnkL bk nx (b :: r)
  | _ => True
/-- a ring from e. -/
def Cyc (bk nx : Nat → Nat) (e : Nat) (l : List Nat) : Prop := LnkL bk nx (e :: l ++ [e])
end Go.Proofs.YtecmhakapomepaaGreat

/- flows: a table; New, time, Len, Counts, gone. -/
namespace Go.Proofs.YtecmhakapomepaaGreat
set_option linter.unusedVariables false
open Go Go.RowKit Go.Maps

def keyE (dt : Nat → EnV) (k : Nat) : Value × Value := (floV (dt k).fl, .pointer (some ⟨k, 0, none⟩))
/-- block g is a table: its map in block m, its ring from e, on which l stand. -/
structure RingV (w : World) (g m e : Nat) (ro idl now ca we : Int) (l : List Nat) (dt : Nat → EnV) (bk nx : Nat → Nat) : Prop where
  blk : Blk w g 217 (tabC ro idl now m e ca we)
  nod : Nod w (e :: l) dt bk nx
  cyc : Cyc bk nx e l
  nd : (e :: l).Nodup
  ent : ∃ A, Ent Tryz.prog 210 w m A ∧ A.Perm (l.map (keyE dt))
  ok : ∀ k ∈ l, FloOk (dt k).fl
section
variable {w w' : World} {g m e : Nat} {ro idl now ca we : Int} {l : List Nat} {dt : Nat → EnV} {bk nx : Nat → Nat}
theorem RingV.lt (h : RingV w g m e ro idl now ca we l dt bk nx) : g < w.heap.size ∧ m < w.heap.size ∧ ∀ k ∈ e :: l, k < w.heap.size := by
  obtain ⟨A, ha, hp⟩ := h.ent
  exact ⟨h.blk.lt, ha.lt, fun k hk => (h.nod k hk).lt⟩
theorem flo_inj {f f' : Flo} (h : floV f = floV f') : f = f' := by
  unfold floV at h
  injection h with h
  simp at h
  cases f; cases f'
  simp_all
/-- what the map gives of a flow. -/
theorem RingV.find (h : RingV w g m e ro idl now ca we l dt bk nx) (f : Flo) (hf : FloOk f) :
    (∃ k ∈ l, (dt k).fl = f ∧ (Instr.lookup 215 (.map (some m)) (floV f) false).run Tryz.prog w = .ok (.pointer (some ⟨k, 0, none⟩)) w) ∨
    ((∀ k ∈ l, (dt k).fl ≠ f) ∧ (Instr.lookup 215 (.map (some m)) (floV f) false).run Tryz.prog w = .ok (.pointer none) w) := by
  obtain ⟨A, ha, hp⟩ := h.ent
  obtain ⟨kl, hk⟩ := flo_lit f hf
  by_cases hm : ∃ k ∈ l, (dt k).fl = f
  · obtain ⟨k, hk1, hk2⟩ := hm
    refine .inl ⟨k, hk1, hk2, ?_⟩
    exact ha.hit0 fkey fmap_und hk (hp.mem_iff.2 (List.mem_map.2 ⟨k, hk1, by unfold keyE; rw [hk2]⟩))
  · refine .inr ⟨fun k hk1 hk2 => hm ⟨k, hk1, hk2⟩, ?_⟩
    refine ha.miss0 fkey fmap_und flink_zero hk fun q => ?_
    obtain ⟨x, hx, hx2⟩ := List.mem_map.1 q
    obtain ⟨k, hk1, rfl⟩ := List.mem_map.1 (hp.mem_iff.1 hx)
    exact hm ⟨k, hk1, flo_inj hx2⟩
end
def zerC : Array Value := #[.int .i64 0, .int .i64 0, .int .i64 0, .map none, .pointer none, .int .i64 0, .int .i64 0]
end Go.Proofs.YtecmhakapomepaaGreat

/- flows: New, Len, Counts, gone. -/
namespace Go.Proofs.YtecmhakapomepaaGreat
set_option linter.unusedVariables false
open Go Go.RowKit Go.Maps

def ze : EnV := ⟨⟨0, 0, 0, 0, 0⟩, 0, 0⟩
set_option maxRecDepth 100000 in
set_option maxHeartbeats 2000000 in
theorem newF_in (w : World) (ro idl : Int) (h1 : 1 ≤ ro) (h2 : ro ≤ 1024) (h3 : 1 ≤ idl) (h4 : idl ≤ 1000000) :
    Calls Tryz.prog 96 #[.int .i64 ro, .int .i64 idl] w fun en w' => ∃ g m e, en = .returned (.pointer (some ⟨g, 0, none⟩)) ∧ RingV w' g m e ro idl 0 0 0 [] (fun _ => ze) (fun _ => e) (fun _ => e) ∧ w.heap.size ≤ g ∧ w.heap.size ≤ m ∧ w.heap.size ≤ e ∧ Below w.heap.size w w' := by
  have d1 : decide (ro < 1) = false := by simp; omega
  have d2 : decide (1024 < ro) = false := by simp; omega
  have d3 : decide (idl < 1) = false := by simp; omega
  have d4 : decide (1000000 < idl) = false := by simp; omega
  have hB := (Below.refl w.heap.size w).alloc (Nat.le_refl _) (.cells #[.int .i64 0, .int .u32 0, .int .u32 0, .int .i64 0, .int .i64 0, .int .i64 0, .int .i64 0, .pointer none, .pointer none] 214)
  have hq := Blk.new w 214 #[.int .i64 0, .int .u32 0, .int .u32 0, .int .i64 0, .int .i64 0, .int .i64 0, .int .i64 0, .pointer none, .pointer none]
  go_enter Tryz.func96, Tryz.ntmps96
  go_upto_region 4 with (fail)
  generalize w.alloc (.cells #[.int .i64 0, .int .u32 0, .int .u32 0, .int .i64 0, .int .i64 0, .int .i64 0, .int .i64 0, .pointer none, .pointer none] 214) = w1 at *
  have lte := hq.lt
  have e7 : w1.cell? ⟨w.heap.size, 7, none⟩ = some (.pointer none) := hq.cellv 7 rfl
  have e8 : w1.cell? ⟨w.heap.size, 8, none⟩ = some (.pointer none) := hq.cellv 8 rfl
  have f7 := hq.frozen 7
  have f8 := hq.frozen 8
  obtain ⟨q1, g1⟩ := blk_store hq 7 (.pointer (some ⟨w.heap.size, 0, none⟩))
  obtain ⟨q2, g2⟩ := blk_store q1 8 (.pointer (some ⟨w.heap.size, 0, none⟩))
  have hB2 := below_own (below_own hB g1 hB.size (Nat.le_refl _)) g2 (Nat.le_trans hB.size g1.size) (Nat.le_refl _)
  replace q2 := Lib.hid q2
  replace hB2 := Lib.hid hB2
  clear q1 g1 g2 hB
  go_upto_region 5 with (fail)
  replace q2 := q2.out
  replace hB2 := hB2.out
  clear e7 e8 f7 f8 lte hq
  generalize World.setCell _ _ _ = w2 at *
  have hz2 := hB2.size
  have lte := q2.lt
  have hq3 := (q2.alloc (.map #[] 0)).alloc (.cells (tabC ro idl 0 w2.heap.size w.heap.size 0 0) 217)
  have hm := (Ent.made (P := Tryz.prog) (K := 210) w2).alloc (.cells (tabC ro idl 0 w2.heap.size w.heap.size 0 0) 217)
  have ht := Blk.new (w2.alloc (.map #[] 0)) 217 (tabC ro idl 0 w2.heap.size w.heap.size 0 0)
  have hB3 := (hB2.alloc hz2 (.map #[] 0)).alloc (by simp; omega) (.cells (tabC ro idl 0 w2.heap.size w.heap.size 0 0) 217)
  rw [show (w2.alloc (.map #[] 0)).heap.size = w2.heap.size + 1 by simp] at ht
  replace hq3 := Lib.hid hq3
  replace hm := Lib.hid hm
  replace ht := Lib.hid ht
  replace hB3 := Lib.hid hB3
  go_wp2_with fail
  go_ret
  refine ⟨w2.heap.size + 1, w2.heap.size, w.heap.size, rfl, ⟨ht.out, fun k hk => ?_, ⟨rfl, rfl, trivial⟩, by simp, ⟨[], hm.out, .nil⟩, by simp⟩, by omega, by omega, Nat.le_refl _, hB3.out⟩
  rw [List.mem_singleton] at hk
  subst hk
  exact hq3.out
end Go.Proofs.YtecmhakapomepaaGreat
