/- probe: ids, an iterator. -/
import Derived.Test.YtejgekoinbdhjaaPrB
import Derived.Test.YtejgekoinbdhjaaRfg
import Derived.Lib.Hide
import Derived.RangeFuncNested
import Derived.RangeFuncBox
import Derived.RangeFuncLeaves
import Derived.Shelf.Abstract
import Derived.OwnWalkIn
import Derived.TacticsInMore
import Derived.LoopNIn
import Derived.LoopIn
namespace Go.Proofs.Ytejgekoinbdhjaa
set_option linter.unusedVariables false
open Go Go.RowKit Go.Maps Go.Shelf
attribute [local go_sem] Oper.semAt_some

/-- rows of ints that lie in memory lie as they lay. -/
def IntsKept (W W' : World) : Prop := ∀ (k : Nat) (vs : Array Value) (fz : Nat × Nat), W.heap[k]? = some (Obj.cells vs 3 fz) → W'.heap[k]? = W.heap[k]?
/-- what a body keeps for the iterator of ids. -/
structure KeepI (g bn Bs : Nat) (W W' : World) : Prop where
  size : W.heap.size ≤ W'.heap.size
  ints : IntsKept W W'
  box : W'.heap[Bs]? = W.heap[Bs]?
  four : W'.cell? ⟨g, 4, none⟩ = W.cell? ⟨g, 4, none⟩
  map : ∀ fn, FMap nV W bn fn → ∃ fn', FMap nV W' bn fn'
theorem KeepI.refl (g bn Bs : Nat) (W : World) : KeepI g bn Bs W W := ⟨Nat.le_refl _, fun _ _ _ _ => rfl, rfl, rfl, fun fn h => ⟨fn, h⟩⟩
theorem KeepI.trans {g bn Bs : Nat} {A B C : World} (h : KeepI g bn Bs A B) (k : KeepI g bn Bs B C) : KeepI g bn Bs A C :=
  ⟨Nat.le_trans h.size k.size, fun i vs fz q => (k.ints i vs fz ((h.ints i vs fz q).trans q)).trans (h.ints i vs fz q), k.box.trans h.box, k.four.trans h.four, fun fn q => by obtain ⟨f2, q2⟩ := h.map fn q; exact k.map f2 q2⟩
theorem Own1.ints {W W' : World} {base n : Nat} {v : Value} {xs : List Value} (h : Own1 W base 3 1 v n xs) (hk : IntsKept W W') (hz : W.heap.size ≤ W'.heap.size) : Own1 W' base 3 1 v n xs := by
  obtain ⟨h1, h2 | ⟨g, cap, cur, e, hb, hh, hr⟩⟩ := h
  · exact ⟨h1, .inl h2⟩
  · exact ⟨h1, .inr ⟨g, cap, cur, e, hb, (hk _ _ _ hh).trans hh, hr⟩⟩
def encP (x : Int × Int) : Array Value := #[.int .i64 x.1, .int .i64 x.2]
def GoodI (bn : Nat) (ks : List Int) (pre : List (Int × Int)) (x : Int × Int) (W : World) : Prop :=
  ks[pre.length]? = some x.1 ∧ ∃ f, FMap nV W bn f ∧ (f x.1).getD 0 = x.2
theorem ascI_eq : ∀ {l m : List Int}, (l.Pairwise fun a b => a < b) → (m.Pairwise fun a b => a < b) → (∀ z, z ∈ l ↔ z ∈ m) → l = m
  | [], [], _, _, _ => rfl
  | [], b :: m, _, _, h => absurd ((h b).2 (by simp)) (by simp)
  | a :: l, [], _, _, h => absurd ((h a).1 (by simp)) (by simp)
  | a :: l, b :: m, h1, h2, h => by
    rw [List.pairwise_cons] at h1 h2
    have e : a = b := by
      have q1 := (h a).1 (by simp)
      have q2 := (h b).2 (by simp)
      rcases List.mem_cons.1 q1 with q | q
      · exact q
      · rcases List.mem_cons.1 q2 with r | r
        · exact r.symm
        · have := h2.1 a q; have := h1.1 b r; omega
    subst e
    refine congrArg (a :: ·) (ascI_eq h1.2 h2.2 fun z => ?_)
    have := h z
    rw [List.mem_cons, List.mem_cons] at this
    refine ⟨fun hz => ?_, fun hz => ?_⟩
    · exact (this.1 (.inr hz)).resolve_left fun q => by have := h1.1 z hz; omega
    · exact (this.2 (.inr hz)).resolve_left fun q => by have := h2.1 z hz; omega
theorem intI_flat (l : List Int) : l.flatMap intK.cel = l.map (Value.int .i64) := by
  induction l with
  | nil => rfl
  | cons a l ih => rw [List.flatMap_cons, ih]; rfl
theorem sorted_ids {V : Type} {l : List (Int × V)} {ks : List Int} (hp : (l.map Prod.fst).Perm ks) (ha : ks.Pairwise fun a b => a < b) : (l.map Prod.fst).mergeSort leI = ks := by
  have hp2 : ((l.map Prod.fst).mergeSort leI).Perm ks := (List.mergeSort_perm _ _).trans hp
  have hnd : ((l.map Prod.fst).mergeSort leI).Pairwise fun a b => a ≠ b := (hp2.pairwise_iff (fun h q => h q.symm)).2 (ha.imp fun h => by omega)
  have hle : ((l.map Prod.fst).mergeSort leI).Pairwise fun a b => leI a b = true := List.pairwise_mergeSort (fun a b c h1 h2 => by simp [leI] at *; omega) (fun a b => by simp [leI]; omega) _
  refine ascI_eq ?_ ha fun z => hp2.mem_iff
  refine List.Pairwise.imp (R := fun a b => leI a b = true ∧ a ≠ b) (fun {a b} h => ?_) (hle.and hnd)
  have := h.1
  simp only [leI, decide_eq_true_eq] at this
  have := h.2
  omega
set_option maxRecDepth 100000 in
set_option maxHeartbeats 1000000 in
theorem ids1_in (n : Nat) (hn : 1 ≤ n) (l Bs g bn : Nat) (ks : List Int) (ha : ks.Pairwise fun a b => a < b) (hks : ∀ k ∈ ks, IdIn k) (hlen : ks.length ≤ 1000) (fn : Int → Option Int) (hfn : ∀ id, id ∈ ks ↔ (fn id).isSome = true)
    (J : List (Int × Int) → World → Prop) (W : World) (hJA : AbidesFrom W.heap.size J) (hbox : W.heap[Bs]? = some (.cells #[.pointer (some ⟨g, 0, none⟩)] 126 (0, 0))) (ltg : g < W.heap.size) (h4 : W.cell? ⟨g, 4, none⟩ = some (.map (some bn))) (hm : FMap nV W bn fn)
    (hY : ∀ pre x W1, J pre W1 → GoodI bn ks pre x W1 → YieldAt Fence.wide (n - 1) Try.prog l (encP x) W1 fun e W' => e = .returned (.bool true) ∧ J (pre ++ [x]) W' ∧ KeepI g bn Bs W1 W') (h0 : J [] W) :
    CallsIn Fence.wide n Try.prog 183 #[.func (.yield l) #[] #[], .pointer (some ⟨Bs, 0, none⟩)] W fun e W' => (∃ v, e = .returned v) ∧ ∃ xs, xs.map Prod.fst = ks ∧ J xs W' := by
  have hro : Fence.wide.round = none := rfl
  have hfn0 : ∀ f, Fence.wide.fn f := fun _ => trivial
  have ltB : Bs < W.heap.size := (Array.getElem?_eq_some_iff.1 hbox).1
  have cB : W.cell? ⟨Bs, 0, none⟩ = some (.pointer (some ⟨g, 0, none⟩)) := Boxed.cell hbox
  obtain ⟨le, hE, hp⟩ := hm.ids (ha.imp fun h => by omega) hfn
  have hsrt := Lib.hid (sorted_ids hp ha)
  have hpl := Lib.hid hp.length_eq
  have hid := entF_keys (enc := nV) le
  have hll : (le.map (entF nV)).length ≤ 1000000 := by have := hp.length_eq; rw [List.length_map] at this; rw [List.length_map, this]; omega
  refine callsIn_of_wp Try.func183 rfl trivial ?_ hro
  simp only [Try.ntmps183, List.size_toArray, List.length_cons, List.length_nil, Nat.reduceAdd, Nat.reduceSub, Array.replicate_succ, Array.replicate_zero, List.push_toArray, List.append_toArray, List.nil_append, List.cons_append]
  have hp2 := Blk.new W 122 #[.map (some bn)]
  have hB2 := (Below.refl W.heap.size W).alloc (Nat.le_refl _) (.cells #[.map (some bn)] 122)
  have hE2 := hE.alloc (.cells #[.map (some bn)] 122)
  gi_wp2_with (first
    | (gi_at_call 154; refine (callsIn_wide.2 (keysS_any W bn)).mono ?_; rintro e w' ⟨rfl, rfl⟩)
    | (gi_at_call 139; refine (callsIn_wide.2 (sortedS_any _ W.heap.size bn _ (le.map Prod.fst) hp2.lt (hp2.cellv 0 rfl) hE2 hid hll)).mono ?_; rintro e w7 ⟨lv, rfl, hown, hB7⟩; rw [hsrt.out, hpl.out] at hown; obtain ⟨A, cap, rfl, -, -, -⟩ := Own1.any hown))
  have hB8 : Below W.heap.size W w7 := hB2.trans (hB7.mono hB2.size)
  have h07 : J [] w7 := hJA _ _ _ none h0 (grown_of_below hB8 (Nat.le_refl _) none) (fun r e => by cases e)
  have hK7 : KeepI g bn Bs W w7 := ⟨hB8.size, fun k vs fz q => hB8.block k (Array.getElem?_eq_some_iff.1 q).1, hB8.block Bs ltB, hB8.cell (p := ⟨g, 4, none⟩) ltg, fun fn q => ⟨fn, q.nx hB8⟩⟩
  replace hown : Own1 w7 (W.alloc (.cells #[.map (some bn)] 122)).heap.size 3 1 (.slice A ks.length cap) ks.length (ks.map (Value.int .i64)) := hown
  generalize (W.alloc (.cells #[.map (some bn)] 122)).heap.size = base at *
  clear hE2 hp2 hB2 hB7 hE hid hll hsrt hpl hp hfn
  gi_loopw [4, 12] (fun _ i wr => ∃ (k : Nat) (xs : List (Int × Int)), k ≤ ks.length ∧ i = .int .i64 (k : Int) ∧ xs.map Prod.fst = ks.take k ∧ J xs wr ∧ Own1 wr base 3 1 (.slice A ks.length cap) ks.length (ks.map (Value.int .i64)) ∧ KeepI g bn Bs W wr) (fun _ i _ => ks.length - (intOf i).toNat)
  case atStart => exact ⟨0, [], Nat.zero_le _, rfl, rfl, h07, hown, hK7⟩
  case round =>
    clear h07 hown hK7 hB8
    obtain ⟨k, xs, hk, rfl, hxs, hJs, hown, hK⟩ := hrel
    have kB : wr.cell? ⟨Bs, 0, none⟩ = some (.pointer (some ⟨g, 0, none⟩)) := (World.cell?_of_block (w := W) (a := ⟨Bs, 0, none⟩) hK.box).trans cB
    have k4 : wr.cell? ⟨g, 4, none⟩ = some (.map (some bn)) := hK.four.trans h4
    have ltBr := Nat.lt_of_lt_of_le ltB hK.size
    have ltgr := Nat.lt_of_lt_of_le ltg hK.size
    replace hxs := Lib.hid hxs
    by_cases hlt : k < ks.length
    · have hki : (k : Int) < ks.length := by omega
      obtain ⟨id, hid⟩ : ∃ id, ks[k]? = some id := ⟨_, List.getElem?_eq_getElem hlt⟩
      have hidI := hks id (List.mem_of_getElem? hid)
      obtain ⟨q, c0, eA, hbq, ltq, hnc, -⟩ := Own1.form hown (by omega)
      injection eA with eA1 _ eA3
      subst eA3
      subst eA1
      have hc1 := Own1.cell hown k (by omega)
      rw [List.getElem?_map, hid] at hc1
      replace hc1 : wr.cell? ⟨q, k, none⟩ = some (.int .i64 id) := hc1
      obtain ⟨f2, hf2⟩ := hK.map fn hm
      have hlk : (Instr.lookup 122 (.map (some bn)) (.int .i64 id) false).run Try.prog wr = .ok (.int .i64 ((f2 id).getD 0)) wr := by
        cases hv : f2 id with
        | none => exact hf2.miss0 nmap_und int_zero hidI hv
        | some v => exact hf2.hit0 nmap_und hidI hv
      obtain ⟨at_, hat⟩ : ∃ at_, (f2 id).getD 0 = at_ := ⟨_, rfl⟩
      rw [hat] at hlk
      have hlx : xs.length = k := by have := congrArg List.length hxs.out; rw [List.length_map, List.length_take] at this; omega
      obtain ⟨fn', tmps, assign, body, hy, hR⟩ := hY xs (id, at_) wr hJs ⟨by rw [hlx]; exact hid, f2, hf2, hat⟩
      replace hat := Lib.hid hat
      unfold encP at hy
      replace hid := Lib.hid hid
      replace hlx := Lib.hid hlx
      gi_wp2
      refine hR.mono ?_
      rintro e W3 ⟨rfl, hJ3, hk3⟩
      gi_wp2
      go_roundw
      case rel => exact ⟨k + 1, xs ++ [(id, at_)], by omega, by go_num, by rw [List.map_append, hxs.out, List.take_add_one, hid.out]; rfl, hJ3, Own1.ints hown hk3.ints hk3.size, hK.trans hk3⟩
      case measure => simp [intOf]; omega
    · have e : ks.length = k := by omega
      have hf : xs.map Prod.fst = ks := by rw [hxs.out, ← e, List.take_length]
      replace hf := Lib.hid hf
      replace e := Lib.hid e
      have hki : ¬ (k : Int) < ks.length := by omega
      gi_wp2
      go_end0
      exact ⟨⟨_, rfl⟩, xs, hf.out, hJs⟩
theorem idsP_any (w : World) (p : Option Addr) : Calls Try.prog 153 #[.pointer p] w fun e w' => e = .returned (.func (.func 183) #[] #[.pointer (some ⟨w.heap.size, 0, none⟩)]) ∧ w' = w.alloc (.cells #[.pointer p] 126) := by
  go_enter Try.func153, Try.ntmps153
  go_wp2_with fail
  go_ret
  exact ⟨rfl, rfl⟩
theorem ids_good (n : Nat) (hn : 1 ≤ n) (Bs g bn : Nat) (ks : List Int) (ha : ks.Pairwise fun a b => a < b) (hks : ∀ k ∈ ks, IdIn k) (hlen : ks.length ≤ 1000) (fn : Int → Option Int) (hfn : ∀ id, id ∈ ks ↔ (fn id).isSome = true)
    (w : World) (hbox : Boxed w Bs 126 (.pointer (some ⟨g, 0, none⟩))) (ltg : g < w.heap.size) (h4 : w.cell? ⟨g, 4, none⟩ = some (.map (some bn))) (hm : FMap nV w bn fn) :
    SeqGood Fence.wide n Try.prog 183 #[.pointer (some ⟨Bs, 0, none⟩)] encP (KeepI g bn Bs) (GoodI bn ks) (fun xs => xs.map Prod.fst = ks) w := fun l J W hW hJ hY h0 =>
  ids1_in n hn l Bs g bn ks ha hks hlen fn hfn J W hJ ((hW.block Bs hbox.lt).trans hbox) (Nat.lt_of_lt_of_le ltg hW.size) ((hW.cell (p := ⟨g, 4, none⟩) ltg).trans h4) (hm.nx hW) hY h0
end Go.Proofs.Ytejgekoinbdhjaa
