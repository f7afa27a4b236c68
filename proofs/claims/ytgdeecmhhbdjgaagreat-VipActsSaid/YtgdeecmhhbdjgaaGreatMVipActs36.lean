import Derived.Test.YtgdeecmhhbdjgaaGreatMVipActs35
import Derived.Test.YtgdeecmhhbdjgaaGreatMVipActs2
import Derived.Test.YtgdeecmhhbdjgaaGreatMVipActs12
import Derived.Test.YtgdeecmhhbdjgaaGreatMVipActs34
/- vip: Ids; Ints. -/
namespace Go.Proofs.YtgdeecmhhbdjgaaGreat
set_option linter.unusedVariables false
open Go Go.RowKit Go.Maps

theorem selB_ids (L : List Mem) : (selB soAll L).map (fun x => x.1) = idsM L := by
  unfold selB idsM
  have e : L.filter soAll = L := List.filter_eq_self.2 fun a _ => rfl
  rw [e, List.map_map]
  rfl
theorem selB_ln (L : List Mem) : (selB soAll L).length = L.length := by
  unfold selB
  have e : L.filter soAll = L := List.filter_eq_self.2 fun a _ => rfl
  rw [e, List.length_map]
theorem wf_i64 {z : Int} (h1 : -9223372036854775808 ≤ z) (h2 : z ≤ 9223372036854775807) : (Lit.int .i64 z).wf = true := by
  simp only [Lit.wf, Bool.and_eq_true, decide_eq_true_eq]
  exact ⟨h1, h2⟩
set_option maxRecDepth 100000 in
set_option maxHeartbeats 8000000 in
theorem vpIds {w : World} {g d p pb f m : Nat} {XF : Nat → Prop} {kb : Int → Nat} {s : VpS} (h : VipR w g d p pb f m XF kb s) (hG : GoodV s) (L : List Mem) (hp : L.Perm s.M) (hs : ById L) :
    Calls Tryz.prog 32 #[.pointer (some ⟨g, 0, none⟩)] w fun e w' => ∃ v, e = .returned v ∧ Rows intK w' w.heap.size w.heap.size 3 v (idsM L) ∧ Below w.heap.size w w' := by
  obtain ⟨R9, hR9e⟩ : ∃ R9, R9 = selB soAll L := ⟨_, rfl⟩
  have hln : R9.length ≤ 16 := by rw [hR9e, selB_ln, hp.length_eq]; exact hG.mem.1
  have hids := Lib.hid (selB_ids L)
  have hR9 : ∀ x ∈ R9, (Lit.int .i64 x.1).wf = true := fun x hx => by
    rw [hR9e] at hx
    obtain ⟨m, hm, rfl⟩ := List.mem_map.1 hx
    have := (hG.mem.2 m (hp.mem_iff.1 (List.mem_filter.1 hm).1)).1
    exact wf_i64 (by show _ ≤ m.id; omega) (by show m.id ≤ _; omega)
  replace hR9e := Lib.hid hR9e
  go_enter Tryz.func32, Tryz.ntmps32
  go_upto_region 3 with (first
    | (go_at_call 29; refine (vpPool h).mono ?_; rintro en w1 ⟨rfl, rfl⟩)
    | (go_at_call 98; refine (pAll w p pb s.pc s.M L h.pol hG.mem hp hs).mono ?_; rintro en w2 ⟨v, rfl, hv, hb2⟩; rw [← hR9e.out] at hv; obtain ⟨VA, vc, rfl, hvc1, hvc2, hS⟩ := hv.seen (Nat.le_refl _)))
  go_wp2_with fail
  replace hR9 := Lib.hid hR9
  go_loopw [3, 5, 10] (fun v _ i wr => ∃ k : Nat, k ≤ R9.length ∧ i = .int .i64 (k : Int) ∧ Rows intK wr w2.heap.size w2.heap.size 3 v ((R9.take k).map fun x => x.1) ∧ Below w2.heap.size w2 wr) (fun _ _ i _ => R9.length - (intOf i).toNat)
  case atStart => exact ⟨0, Nat.zero_le _, rfl, Rows.nil _ _ _ _, Below.refl _ _⟩
  case round =>
  obtain ⟨k, hk, rfl, hrow, hB⟩ := hrel
  have hz := hB.size
  by_cases hlt : k < R9.length
  · obtain ⟨bx, hbx⟩ : ∃ bx, R9[k]? = some bx := ⟨_, List.getElem?_eq_getElem hlt⟩
    obtain ⟨b, off, rfl, hb, hc⟩ := (hS.below hB fun _ q => q.2).cell hbx
    have e0 : wr.cell? ⟨b, off + k * 3, none⟩ = some (.int .i64 bx.1) := hc 0 (by decide)
    have e1 : wr.cell? ⟨b, off + k * 3 + 1, none⟩ = some (.int .u32 bx.2.1) := hc 1 (by decide)
    have e2 : wr.cell? ⟨b, off + k * 3 + 2, none⟩ = some (.int .i64 bx.2.2) := hc 2 (by decide)
    have ltb : b < wr.heap.size := Nat.lt_of_lt_of_le hb.2 hz
    have hki : (k : Int) < R9.length := by omega
    have hft : ((R9.take (k + 1)).map fun x => x.1) = ((R9.take k).map fun x => x.1) ++ [bx.1] := by
      rw [List.take_add_one, hbx, List.map_append]; rfl
    replace hft := Lib.hid hft
    have hb2 := (Below.refl wr.heap.size wr).alloc (Nat.le_refl _) (.cells #[.int .i64 bx.1, .int .u32 bx.2.1, .int .i64 bx.2.2] 120)
    have hq2 := Blk.new wr 120 #[.int .i64 bx.1, .int .u32 bx.2.1, .int .i64 bx.2.2]
    have hrow2 := hrow.alloc (.cells #[.int .i64 bx.1, .int .u32 bx.2.1, .int .i64 bx.2.2] 120)
    have hB2 := hB.alloc hz (.cells #[.int .i64 bx.1, .int .u32 bx.2.1, .int .i64 bx.2.2] 120)
    have hml : ((R9.take k).map fun x => x.1).length = k := by rw [List.length_map, List.length_take]; omega
    have hwf := hR9.out bx (List.mem_of_getElem? hbx)
    go_upto_region 5 with (fail)
    clear e0 e1 e2 hbx hc
    generalize wr.alloc (.cells #[.int .i64 bx.1, .int .u32 bx.2.1, .int .i64 bx.2.2] 120) = w3 at *
    have x0 : w3.cell? ⟨wr.heap.size, 0, none⟩ = some (.int .i64 bx.1) := hq2.cellv 0 rfl
    have lt3 := hq2.lt
    have hz3 := hB2.size
    have hone : Seen intK (w3.alloc (.cells #[.int .i64 bx.1] 3)) (fun _ => True) (some ⟨w3.heap.size, 0, none⟩) 1 [bx.1] := seen_one (R := intK) (S := fun _ => False) (S' := fun _ => True) w3 3 bx.1 #[.int .i64 bx.1] rfl hwf (fun _ h => h.elim) trivial (fun _ h => h.elim)
    have hrow3 := hrow2.alloc (.cells #[.int .i64 bx.1] 3)
    have hB3 := hB2.alloc hz3 (.cells #[.int .i64 bx.1] 3)
    have hz4 := hB3.size
    go_wp2_with (at_builtin; refine wpList_rows int_ok rfl (.tmp 14) (.tmp 17) rfl hrow3 rfl rfl hone (fun x hx => by simp at hx; subst hx; exact hwf) (by unfold maxLen; omega) (by omega) hz4 ?_; intro v6 w6 hrow6 hg6)
    exact ⟨⟨k + 1, by omega, by go_num, by rw [hft.out]; exact hrow6, hB3.grown hg6 hz4 (fun j e => (hrow3.1.lt j e).1)⟩, by simp [intOf]; omega⟩
  · obtain rfl : k = R9.length := by omega
    rw [List.take_length] at hrow
    rw [hR9e.out, hids.out] at hrow
    go_wp2_with fail
    go_ret
    exact ⟨_, rfl, hrow.less hb2.size hb2.size, hb2.trans (hB.mono hb2.size)⟩
set_option maxRecDepth 100000 in
set_option maxHeartbeats 4000000 in
theorem ints13_any (w : World) (S S' : Nat → Prop) (A : Option Addr) (n c : Nat) (xs : List Int) (A' : Option Addr) (n' c' : Nat) (ys : List Int) (hx : Seen intK w S A n xs) (hy : Seen intK w S' A' n' ys) (hS : ∀ b, S b → b < w.heap.size) (hS' : ∀ b, S' b → b < w.heap.size) (hn : n ≤ 100000000) :
    Calls Tryz.prog 130 #[.slice A n c, .slice A' n' c'] w fun e w' => e = .returned (.bool (decide (xs = ys))) ∧ Below w.heap.size w w' := by
  have hl := Lib.hid hx.1
  have hl' := Lib.hid hy.1
  go_enter Tryz.func130, Tryz.ntmps130
  by_cases hne : n ≠ n'
  · have hb : ((n : Int) != n') = true := by rw [bne_iff_ne]; omega
    have e := Lib.hid (show decide (xs = ys) = false by rw [decide_eq_false_iff_not]; intro e; rw [e] at hl; exact hne (hl.out.symm.trans hl'.out))
    go_wp2_with fail
    go_ret
    exact ⟨ret_bool e.out.symm, Below.refl _ _⟩
  have hnn : n = n' := by omega
  subst hnn
  have hb : ((n : Int) != n) = false := by simp
  go_wp2_with fail
  go_loopw [5, 13] (fun _ i wr => ∃ k : Nat, k ≤ n ∧ i = .int .i64 (k : Int) ∧ xs.take k = ys.take k ∧ Below w.heap.size w wr) (fun _ i _ => n - (intOf i).toNat)
  case atStart => exact ⟨0, Nat.zero_le _, rfl, rfl, Below.refl _ _⟩
  case round =>
  obtain ⟨k, hk, rfl, hkey, hB⟩ := hrel
  replace hkey := Lib.hid hkey
  have hz := hB.size
  by_cases hlt : k < n
  · obtain ⟨b, off, x, rfl, hb1, hxk, c0⟩ := int_cell (hx.below hB hS) hlt
    obtain ⟨b', off', y, rfl, hb2, hyk, d0⟩ := int_cell (hy.below hB hS') hlt
    have lb1 : b < wr.heap.size := Nat.lt_of_lt_of_le (hS _ hb1) hz
    have lb2 : b' < wr.heap.size := Nat.lt_of_lt_of_le (hS' _ hb2) hz
    have hki : (k : Int) < n := by omega
    by_cases he : x = y
    · subst he
      have e := Lib.hid (take_next hkey.out hxk hyk)
      have hbb : (x != x) = false := by simp
      go_wp2_with fail
      try refine wp_region_noPanic ?_
      have hs1r : Below wr.heap.size wr wr.drew := (Below.refl _ _).drew
      refine wp_region_held_drew (S := fun w' => Below wr.heap.size wr w') (by kernel_rfl) hs1r (fun _ => ?_)
      (refine held_takeA 0 (by rfl) ?_ (by kernel_rfl) (fun _ _ _ h => h) hs1r ?_ ?_; rotate_left; (focus (intro wq hSw; have hrd := zR hSw; go_simp; try with_reducible rfl; done)); try simp only [Act.put, zA, zB, zC])
      (refine held_takeA 1 (by rfl) ?_ (by kernel_rfl) (fun _ _ _ h => h) hs1r ?_ ?_; rotate_left; (focus (intro wq hSw; have hrd := zR hSw; go_simp; try with_reducible rfl; done)); try simp only [Act.put, zA, zB, zC])
      (refine held_takeA 2 (by rfl) ?_ (by kernel_rfl) (fun _ _ _ h => h) hs1r ?_ ?_; rotate_left; (focus (intro wq hSw; have hrd := zR hSw; go_simp; try with_reducible rfl; done)); try simp only [Act.put, zA, zB, zC])
      (refine held_takeA 3 (by rfl) ?_ (by kernel_rfl) (fun _ _ _ h => h) hs1r ?_ ?_; rotate_left; (focus (intro wq hSw; have hrd := zR hSw; go_simp; try with_reducible rfl; done)); try simp only [Act.put, zA, zB, zC])
      (refine held_takeA 4 (by rfl) ?_ (by kernel_rfl) (fun _ _ _ h => h) hs1r ?_ ?_; rotate_left; (focus (intro wq hSw; have hrd := zR hSw; go_simp; try with_reducible rfl; done)); try simp only [Act.put, zA, zB, zC])
      (refine held_takeA 5 (by rfl) ?_ (by kernel_rfl) (fun _ _ _ h => h) hs1r ?_ ?_; rotate_left; (focus (intro wq hSw; have hrd := zR hSw; go_simp; try with_reducible rfl; done)); try simp only [Act.put, zA, zB, zC])
      (refine held_takeA 6 (by rfl) ?_ (by kernel_rfl) (fun _ _ _ h => h) hs1r ?_ ?_; rotate_left; (focus (intro wq hSw; have hrd := zR hSw; go_simp; try with_reducible rfl; done)); try simp only [Act.put, zA, zB, zC])
      (refine held_takeA 7 (by rfl) ?_ (by kernel_rfl) (fun _ _ _ h => h) hs1r ?_ ?_; rotate_left; (focus (intro wq hSw; have hrd := zR hSw; go_simp; try with_reducible rfl; done)); try simp only [Act.put, zA, zB, zC])
      (refine held_takeA 8 (by rfl) ?_ (by kernel_rfl) (fun _ _ _ h => h) hs1r ?_ ?_; rotate_left; (focus (intro wq hSw; have hrd := zR hSw; go_simp; try with_reducible rfl; done)); try simp only [Act.put, zA, zB, zC])
      refine wpAnyH_done (by kernel_rfl) ?_ _
      try refine NoPanic.normal ?_
      go_wp2_with fail
      exact ⟨⟨k + 1, by omega, by go_num, e.out, hB.drew⟩, by simp [intOf]; omega⟩
    · have e := Lib.hid (show decide (xs = ys) = false by rw [decide_eq_false_iff_not]; intro e; rw [e, hyk] at hxk; injection hxk with hxk; exact he hxk.symm)
      have hbb : (x != y) = true := by simpa using he
      replace he := Lib.hid he
      go_wp2_with fail
      try refine wp_region_noPanic ?_
      have hs2r : Below wr.heap.size wr wr.drew := (Below.refl _ _).drew
      refine wp_region_held_drew (S := fun w' => Below wr.heap.size wr w') (by kernel_rfl) hs2r (fun _ => ?_)
      (refine held_takeA 0 (by rfl) ?_ (by kernel_rfl) (fun _ _ _ h => h) hs2r ?_ ?_; rotate_left; (focus (intro wq hSw; have hrd := zR hSw; go_simp; try with_reducible rfl; done)); try simp only [Act.put, zA, zB, zC])
      (refine held_takeA 1 (by rfl) ?_ (by kernel_rfl) (fun _ _ _ h => h) hs2r ?_ ?_; rotate_left; (focus (intro wq hSw; have hrd := zR hSw; go_simp; try with_reducible rfl; done)); try simp only [Act.put, zA, zB, zC])
      (refine held_takeA 2 (by rfl) ?_ (by kernel_rfl) (fun _ _ _ h => h) hs2r ?_ ?_; rotate_left; (focus (intro wq hSw; have hrd := zR hSw; go_simp; try with_reducible rfl; done)); try simp only [Act.put, zA, zB, zC])
      (refine held_takeA 3 (by rfl) ?_ (by kernel_rfl) (fun _ _ _ h => h) hs2r ?_ ?_; rotate_left; (focus (intro wq hSw; have hrd := zR hSw; go_simp; try with_reducible rfl; done)); try simp only [Act.put, zA, zB, zC])
      (refine held_takeA 4 (by rfl) ?_ (by kernel_rfl) (fun _ _ _ h => h) hs2r ?_ ?_; rotate_left; (focus (intro wq hSw; have hrd := zR hSw; go_simp; try with_reducible rfl; done)); try simp only [Act.put, zA, zB, zC])
      (refine held_takeA 5 (by rfl) ?_ (by kernel_rfl) (fun _ _ _ h => h) hs2r ?_ ?_; rotate_left; (focus (intro wq hSw; have hrd := zR hSw; go_simp; try with_reducible rfl; done)); try simp only [Act.put, zA, zB, zC])
      (refine held_takeA 6 (by rfl) ?_ (by kernel_rfl) (fun _ _ _ h => h) hs2r ?_ ?_; rotate_left; (focus (intro wq hSw; have hrd := zR hSw; go_simp; try with_reducible rfl; done)); try simp only [Act.put, zA, zB, zC])
      (refine held_takeA 7 (by rfl) ?_ (by kernel_rfl) (fun _ _ _ h => h) hs2r ?_ ?_; rotate_left; (focus (intro wq hSw; have hrd := zR hSw; go_simp; try with_reducible rfl; done)); try simp only [Act.put, zA, zB, zC])
      (refine held_takeA 8 (by rfl) ?_ (by kernel_rfl) (fun _ _ _ h => h) hs2r ?_ ?_; rotate_left; (focus (intro wq hSw; have hrd := zR hSw; go_simp; try with_reducible rfl; done)); try simp only [Act.put, zA, zB, zC])
      refine wpAnyH_done (by kernel_rfl) ?_ _
      try refine NoPanic.normal ?_
      go_wp2_with fail
      go_ret
      exact ⟨ret_bool e.out.symm, hB.drew⟩
  · obtain rfl : k = n := by omega
    have e : decide (xs = ys) = true := by
      have := hkey.out
      rw [List.take_of_length_le (by have := hl.out; omega), List.take_of_length_le (by have := hl'.out; omega)] at this
      simpa using this
    replace e := Lib.hid e
    go_wp2_with fail
    go_ret
    exact ⟨ret_bool e.out.symm, hB⟩
end Go.Proofs.YtgdeecmhhbdjgaaGreat

/- vip: the document's example. -/
namespace Go.Proofs.YtgdeecmhhbdjgaaGreat
set_option linter.unusedVariables false
open Go Go.RowKit Go.Maps

def exB : List BndV := [⟨0, 7, 1⟩, ⟨1, 8, 1⟩]
def exV (g : Nat) : VipV := ⟨167772161, 50, some ⟨g, 0, none⟩, 2, 2, exB⟩
def exC (g h : Nat) (dF dS dC dH : Int) : CfgV := ⟨1, 1, 1, none, 0, 0, [], some ⟨h, 0, none⟩, 1, 1, [exV g], none, 0, 0, [], 1, 1, 1, 1, 5, 5, 9000, dF, dS, 0, dC, dH, 5⟩
theorem seen_blk {α : Type} {R : RK α} {w : World} {b : Nat} {T : TypeId} {cs : Array Value} {l : List α} {S : Nat → Prop} (h : Blk w b T cs) (hcs : cs.toList = l.flatMap R.cel) (hok : ∀ a ∈ l, R.ok w S a) (hb : S b) : Seen R w S (some ⟨b, 0, none⟩) l.length l :=
  ⟨rfl, hok, fun _ => ⟨b, 0, rfl, hb, fun j a hj i hi => by
    have := flat_get R l j i a hj hi
    rw [← hcs] at this
    rw [Nat.zero_add, h.cell, ← this]
    simp⟩⟩
theorem ex_in {w : World} {g h : Nat} {dF dS dC dH : Int} (hk : Blk w g 120 #[.int .i64 0, .int .u32 7, .int .i64 1, .int .i64 1, .int .u32 8, .int .i64 1]) (hv : Blk w h 109 #[.int .u32 167772161, .int .i64 50, .slice (some ⟨g, 0, none⟩) 2 2]) (hF : IsI dF ∧ IsI dS ∧ IsI dC ∧ IsI dH) : CfgIn w (exC g h dF dS dC dH) := by
  have h1 : Seen bndK w (fun b => b < w.heap.size) (some ⟨g, 0, none⟩) 2 exB := seen_blk (l := exB) hk rfl (by intro a ha; simp [exB] at ha; rcases ha with rfl | rfl <;> (show IsI _ ∧ IsU _ ∧ IsI _; unfold IsI IsU; decide)) hk.lt
  have h2 : Seen vipK w (fun b => b < w.heap.size) (some ⟨h, 0, none⟩) 1 [exV g] := seen_blk (l := [exV g]) hv rfl (by
    intro a ha
    rw [List.mem_singleton.1 ha]
    exact ⟨(show IsU 167772161 by unfold IsU; decide), (show IsI 50 by unfold IsI; decide), Nat.le_refl _, (show 2 ≤ maxLen by decide), h1⟩) hv.lt
  have u1 : IsU 1 := by unfold IsU; decide
  have i1 : IsI 1 := by unfold IsI; decide
  have i5 : IsI 5 := by unfold IsI; decide
  have l0 : 0 ≤ 0 ∧ 0 ≤ maxLen := by decide
  have l1 : 1 ≤ 1 ∧ 1 ≤ maxLen := by decide
  exact ⟨u1, u1, ⟨i1, i1, i1, i1, i1, i5, i5, (show IsI 9000 by unfold IsI; decide)⟩, ⟨hF.1, hF.2.1, (show IsI 0 by unfold IsI; decide), hF.2.2.1, hF.2.2.2, i5⟩, ⟨l0, l1, l0⟩, Seen.none_, h2, Seen.none_⟩
set_option maxRecDepth 100000 in
set_option maxHeartbeats 16000000 in
theorem base_any (w : World) : Calls Tryz.prog 103 #[.agg #[.int .i64 0, .int .u32 0, .int .u32 0, .slice none 0 0, .slice none 0 0, .slice none 0 0, .int .i64 0, .int .i64 0, .int .i64 0, .int .i64 0, .int .i64 0, .int .i64 0, .int .i64 0, .int .i64 0, .int .i64 0, .int .i64 0, .int .i64 0, .int .i64 0, .int .i64 0]] w fun e w' => ∃ g h, e = .returned (.agg (cfgC (exC g h 0 0 0 0))) ∧ CfgIn w' (exC g h 0 0 0 0) ∧ Below w.heap.size w w' := by
  have hB := ((Below.refl w.heap.size w).alloc (Nat.le_refl _) (.cells #[.int .i64 0, .int .u32 0, .int .u32 0, .slice none 0 0, .slice none 0 0, .slice none 0 0, .int .i64 0, .int .i64 0, .int .i64 0, .int .i64 0, .int .i64 0, .int .i64 0, .int .i64 0, .int .i64 0, .int .i64 0, .int .i64 0, .int .i64 0, .int .i64 0, .int .i64 0] 29)).alloc (by simp) (.cells #[.int .i64 0, .int .u32 0, .int .u32 0, .slice none 0 0, .slice none 0 0, .slice none 0 0, .int .i64 0, .int .i64 0, .int .i64 0, .int .i64 0, .int .i64 0, .int .i64 0, .int .i64 0, .int .i64 0, .int .i64 0, .int .i64 0, .int .i64 0, .int .i64 0, .int .i64 0] 29)
  go_enter Tryz.func103, Tryz.ntmps103
  go_upto_region 1 with (fail)
  have hq := (Blk.new w 29 #[.int .i64 0, .int .u32 0, .int .u32 0, .slice none 0 0, .slice none 0 0, .slice none 0 0, .int .i64 0, .int .i64 0, .int .i64 0, .int .i64 0, .int .i64 0, .int .i64 0, .int .i64 0, .int .i64 0, .int .i64 0, .int .i64 0, .int .i64 0, .int .i64 0, .int .i64 0]).alloc (.cells #[.int .i64 0, .int .u32 0, .int .u32 0, .slice none 0 0, .slice none 0 0, .slice none 0 0, .int .i64 0, .int .i64 0, .int .i64 0, .int .i64 0, .int .i64 0, .int .i64 0, .int .i64 0, .int .i64 0, .int .i64 0, .int .i64 0, .int .i64 0, .int .i64 0, .int .i64 0] 29)
  have hr := Blk.new (w.alloc (.cells #[.int .i64 0, .int .u32 0, .int .u32 0, .slice none 0 0, .slice none 0 0, .slice none 0 0, .int .i64 0, .int .i64 0, .int .i64 0, .int .i64 0, .int .i64 0, .int .i64 0, .int .i64 0, .int .i64 0, .int .i64 0, .int .i64 0, .int .i64 0, .int .i64 0, .int .i64 0] 29)) 29 #[.int .i64 0, .int .u32 0, .int .u32 0, .slice none 0 0, .slice none 0 0, .slice none 0 0, .int .i64 0, .int .i64 0, .int .i64 0, .int .i64 0, .int .i64 0, .int .i64 0, .int .i64 0, .int .i64 0, .int .i64 0, .int .i64 0, .int .i64 0, .int .i64 0, .int .i64 0]
  rw [show (w.alloc (.cells #[.int .i64 0, .int .u32 0, .int .u32 0, .slice none 0 0, .slice none 0 0, .slice none 0 0, .int .i64 0, .int .i64 0, .int .i64 0, .int .i64 0, .int .i64 0, .int .i64 0, .int .i64 0, .int .i64 0, .int .i64 0, .int .i64 0, .int .i64 0, .int .i64 0, .int .i64 0] 29)).heap.size = w.heap.size + 1 by simp] at hr
  generalize (w.alloc (.cells #[.int .i64 0, .int .u32 0, .int .u32 0, .slice none 0 0, .slice none 0 0, .slice none 0 0, .int .i64 0, .int .i64 0, .int .i64 0, .int .i64 0, .int .i64 0, .int .i64 0, .int .i64 0, .int .i64 0, .int .i64 0, .int .i64 0, .int .i64 0, .int .i64 0, .int .i64 0] 29)).alloc (.cells #[.int .i64 0, .int .u32 0, .int .u32 0, .slice none 0 0, .slice none 0 0, .slice none 0 0, .int .i64 0, .int .i64 0, .int .i64 0, .int .i64 0, .int .i64 0, .int .i64 0, .int .i64 0, .int .i64 0, .int .i64 0, .int .i64 0, .int .i64 0, .int .i64 0, .int .i64 0] 29) = w1 at *
  have c0 : w1.cell? ⟨w.heap.size, 0, none⟩ = some (.int .i64 0) := hq.cellv 0 rfl
  have f0 := hq.frozen 0
  have c1 : w1.cell? ⟨w.heap.size, 1, none⟩ = some (.int .u32 0) := hq.cellv 1 rfl
  have f1 := hq.frozen 1
  have c2 : w1.cell? ⟨w.heap.size, 2, none⟩ = some (.int .u32 0) := hq.cellv 2 rfl
  have f2 := hq.frozen 2
  have ql := hq.lt
  obtain ⟨hq0, hg0⟩ := blk_store hq 0 (.int .i64 1)
  obtain ⟨hq1, hg1⟩ := blk_store hq0 1 (.int .u32 1)
  obtain ⟨hq2, hg2⟩ := blk_store hq1 2 (.int .u32 1)
  have hgg := (grown_trans (grown_trans hg0 hg1) hg2)
  have hql := hq2
  clear hg0 hg1 hg2 hq0 hq1 hq2
  replace hql : Blk (((w1.setCell ⟨w.heap.size, 0, none⟩ (.int .i64 1)).setCell ⟨w.heap.size, 1, none⟩ (.int .u32 1)).setCell ⟨w.heap.size, 2, none⟩ (.int .u32 1)) w.heap.size 29 #[.int .i64 1, .int .u32 1, .int .u32 1, .slice none 0 0, .slice none 0 0, .slice none 0 0, .int .i64 0, .int .i64 0, .int .i64 0, .int .i64 0, .int .i64 0, .int .i64 0, .int .i64 0, .int .i64 0, .int .i64 0, .int .i64 0, .int .i64 0, .int .i64 0, .int .i64 0] := hql
  replace hgg := Lib.hid hgg
  replace hql := Lib.hid hql
  go_upto_region 2 with (fail)
  replace hgg := hgg.out
  replace hql := hql.out
  clear c0 f0 c1 f1 c2 f2 ql hq
  generalize ((w1.setCell ⟨w.heap.size, 0, none⟩ (.int .i64 1)).setCell ⟨w.heap.size, 1, none⟩ (.int .u32 1)).setCell ⟨w.heap.size, 2, none⟩ (.int .u32 1) = w2 at *
  have hq := hql
  clear hql
  have hr2 := hr.grown hgg (by simp)
  have hB2 := below_own hB hgg hB.size (Nat.le_refl _)
  clear hB hr hgg
  have c6 : w2.cell? ⟨w.heap.size, 6, none⟩ = some (.int .i64 0) := hq.cellv 6 rfl
  have f6 := hq.frozen 6
  have c7 : w2.cell? ⟨w.heap.size, 7, none⟩ = some (.int .i64 0) := hq.cellv 7 rfl
  have f7 := hq.frozen 7
  have c8 : w2.cell? ⟨w.heap.size, 8, none⟩ = some (.int .i64 0) := hq.cellv 8 rfl
  have f8 := hq.frozen 8
  have c9 : w2.cell? ⟨w.heap.size, 9, none⟩ = some (.int .i64 0) := hq.cellv 9 rfl
  have f9 := hq.frozen 9
  have c10 : w2.cell? ⟨w.heap.size, 10, none⟩ = some (.int .i64 0) := hq.cellv 10 rfl
  have f10 := hq.frozen 10
  have c11 : w2.cell? ⟨w.heap.size, 11, none⟩ = some (.int .i64 0) := hq.cellv 11 rfl
  have f11 := hq.frozen 11
  have c12 : w2.cell? ⟨w.heap.size, 12, none⟩ = some (.int .i64 0) := hq.cellv 12 rfl
  have f12 := hq.frozen 12
  have c18 : w2.cell? ⟨w.heap.size, 18, none⟩ = some (.int .i64 0) := hq.cellv 18 rfl
  have f18 := hq.frozen 18
  have ql := hq.lt
  obtain ⟨hq0, hg0⟩ := blk_store hq 6 (.int .i64 1)
  obtain ⟨hq1, hg1⟩ := blk_store hq0 7 (.int .i64 1)
  obtain ⟨hq2, hg2⟩ := blk_store hq1 8 (.int .i64 1)
  obtain ⟨hq3, hg3⟩ := blk_store hq2 9 (.int .i64 1)
  obtain ⟨hq4, hg4⟩ := blk_store hq3 10 (.int .i64 5)
  obtain ⟨hq5, hg5⟩ := blk_store hq4 11 (.int .i64 5)
  obtain ⟨hq6, hg6⟩ := blk_store hq5 12 (.int .i64 9000)
  obtain ⟨hq7, hg7⟩ := blk_store hq6 18 (.int .i64 5)
  have hgg := (grown_trans (grown_trans (grown_trans (grown_trans (grown_trans (grown_trans (grown_trans hg0 hg1) hg2) hg3) hg4) hg5) hg6) hg7)
  have hql := hq7
  clear hg0 hg1 hg2 hg3 hg4 hg5 hg6 hg7 hq0 hq1 hq2 hq3 hq4 hq5 hq6 hq7
  replace hql : Blk ((((((((w2.setCell ⟨w.heap.size, 6, none⟩ (.int .i64 1)).setCell ⟨w.heap.size, 7, none⟩ (.int .i64 1)).setCell ⟨w.heap.size, 8, none⟩ (.int .i64 1)).setCell ⟨w.heap.size, 9, none⟩ (.int .i64 1)).setCell ⟨w.heap.size, 10, none⟩ (.int .i64 5)).setCell ⟨w.heap.size, 11, none⟩ (.int .i64 5)).setCell ⟨w.heap.size, 12, none⟩ (.int .i64 9000)).setCell ⟨w.heap.size, 18, none⟩ (.int .i64 5)) w.heap.size 29 #[.int .i64 1, .int .u32 1, .int .u32 1, .slice none 0 0, .slice none 0 0, .slice none 0 0, .int .i64 1, .int .i64 1, .int .i64 1, .int .i64 1, .int .i64 5, .int .i64 5, .int .i64 9000, .int .i64 0, .int .i64 0, .int .i64 0, .int .i64 0, .int .i64 0, .int .i64 5] := hql
  replace hgg := Lib.hid hgg
  replace hql := Lib.hid hql
  go_upto_region 3 with (fail)
  replace hgg := hgg.out
  replace hql := hql.out
  clear c6 f6 c7 f7 c8 f8 c9 f9 c10 f10 c11 f11 c12 f12 c18 f18 ql hq
  generalize (((((((w2.setCell ⟨w.heap.size, 6, none⟩ (.int .i64 1)).setCell ⟨w.heap.size, 7, none⟩ (.int .i64 1)).setCell ⟨w.heap.size, 8, none⟩ (.int .i64 1)).setCell ⟨w.heap.size, 9, none⟩ (.int .i64 1)).setCell ⟨w.heap.size, 10, none⟩ (.int .i64 5)).setCell ⟨w.heap.size, 11, none⟩ (.int .i64 5)).setCell ⟨w.heap.size, 12, none⟩ (.int .i64 9000)).setCell ⟨w.heap.size, 18, none⟩ (.int .i64 5) = w3 at *
  have hq := hql
  clear hql
  have hr3 := hr2.grown hgg (by simp)
  have hB3 := below_own hB2 hgg hB2.size (Nat.le_refl _)
  clear hB2 hr2 hgg
  have c3 : w3.cell? ⟨w.heap.size, 3, none⟩ = some (.slice none 0 0) := hq.cellv 3 rfl
  have f3 := hq.frozen 3
  have c5 : w3.cell? ⟨w.heap.size, 5, none⟩ = some (.slice none 0 0) := hq.cellv 5 rfl
  have f5 := hq.frozen 5
  have ql := hq.lt
  obtain ⟨hq0, hg0⟩ := blk_store hq 3 (.slice none 0 0)
  obtain ⟨hq1, hg1⟩ := blk_store hq0 5 (.slice none 0 0)
  have hgg := (grown_trans hg0 hg1)
  have hql := hq1
  clear hg0 hg1 hq0 hq1
  replace hql : Blk ((w3.setCell ⟨w.heap.size, 3, none⟩ (.slice none 0 0)).setCell ⟨w.heap.size, 5, none⟩ (.slice none 0 0)) w.heap.size 29 #[.int .i64 1, .int .u32 1, .int .u32 1, .slice none 0 0, .slice none 0 0, .slice none 0 0, .int .i64 1, .int .i64 1, .int .i64 1, .int .i64 1, .int .i64 5, .int .i64 5, .int .i64 9000, .int .i64 0, .int .i64 0, .int .i64 0, .int .i64 0, .int .i64 0, .int .i64 5] := hql
  replace hgg := Lib.hid hgg
  replace hql := Lib.hid hql
  go_upto_region 4 with (fail)
  replace hgg := hgg.out
  replace hql := hql.out
  clear c3 f3 c5 f5 ql hq
  generalize (w3.setCell ⟨w.heap.size, 3, none⟩ (.slice none 0 0)).setCell ⟨w.heap.size, 5, none⟩ (.slice none 0 0) = w4 at *
  have hq := hql
  clear hql
  have hr4 := hr3.grown hgg (by simp)
  have hB4 := below_own hB3 hgg hB3.size (Nat.le_refl _)
  clear hB3 hr3 hgg
  have c4 : w4.cell? ⟨w.heap.size, 4, none⟩ = some (.slice none 0 0) := hq.cellv 4 rfl
  have f4 := hq.frozen 4
  have ql := hq.lt
  obtain ⟨hq5, hg5⟩ := blk_store hq 4 (.slice (some ⟨w4.heap.size + 1, 0, none⟩) 1 1)
  have hz5 : (w4.setCell ⟨w.heap.size, 4, none⟩ (.slice (some ⟨w4.heap.size + 1, 0, none⟩) 1 1)).heap.size = w4.heap.size := by simp
  replace hq5 : Blk (w4.setCell ⟨w.heap.size, 4, none⟩ (.slice (some ⟨w4.heap.size + 1, 0, none⟩) 1 1)) w.heap.size 29 (cfgC (exC w4.heap.size (w4.heap.size + 1) 0 0 0 0)) := hq5
  replace hq5 := Lib.hid hq5
  replace hg5 := Lib.hid hg5
  replace hz5 := Lib.hid hz5
  go_upto_region 5 with (fail)
  replace hq5 := hq5.out
  replace hg5 := hg5.out
  replace hz5 := hz5.out
  clear c4 f4 ql hq
  generalize w4.setCell ⟨w.heap.size, 4, none⟩ (.slice (some ⟨w4.heap.size + 1, 0, none⟩) 1 1) = wA at *
  obtain ⟨a4, ha4⟩ : ∃ a, a = w4.heap.size := ⟨_, rfl⟩
  rw [← ha4] at hq5 hz5 ⊢
  have hlt4 : w.heap.size + 1 < a4 := by rw [ha4]; exact hr4.lt
  have hr5 := hr4.grown hg5 (by simp)
  have hB5 := below_own hB4 hg5 hB4.size (Nat.le_refl _)
  replace ha4 := Lib.hid ha4
  clear hr4 hB4 hg5
  have hbx := (Below.refl wA.heap.size wA).alloc (Nat.le_refl _) (.cells #[.int .i64 0, .int .u32 7, .int .i64 1, .int .i64 1, .int .u32 8, .int .i64 1] 120)
  have hk := Blk.new wA 120 #[.int .i64 0, .int .u32 7, .int .i64 1, .int .i64 1, .int .u32 8, .int .i64 1]
  rw [hz5] at hk
  have hz6 : (wA.alloc (.cells #[.int .i64 0, .int .u32 7, .int .i64 1, .int .i64 1, .int .u32 8, .int .i64 1] 120)).heap.size = a4 + 1 := by simp [hz5]
  have hq6 := hq5.below hbx hq5.lt
  have hr6 := hr5.below hbx hr5.lt
  have hB6 := hB5.trans (hbx.mono hB5.size)
  clear hbx hq5 hr5 hB5
  generalize wA.alloc (.cells #[.int .i64 0, .int .u32 7, .int .i64 1, .int .i64 1, .int .u32 8, .int .i64 1] 120) = wB at *
  have hby := (Below.refl wB.heap.size wB).alloc (Nat.le_refl _) (.cells #[.int .u32 167772161, .int .i64 50, .slice (some ⟨a4, 0, none⟩) 2 2] 109)
  have hv := Blk.new wB 109 #[.int .u32 167772161, .int .i64 50, .slice (some ⟨a4, 0, none⟩) 2 2]
  rw [hz6] at hv
  have hq7 := hq6.below hby hq6.lt
  have hr7 := hr6.below hby hr6.lt
  have hk7 := hk.below hby hk.lt
  have hB7 := hB6.trans (hby.mono hB6.size)
  clear hby hq6 hr6 hB6 hk
  generalize wB.alloc (.cells #[.int .u32 167772161, .int .i64 50, .slice (some ⟨a4, 0, none⟩) 2 2] 109) = wC at *
  have hi : (Tryz.prog.info? 29).map (·.size) = some (cfgC (exC a4 (a4 + 1) 0 0 0 0)).size := by kernel_rfl
  go_wp2_with (first
    | (refine wpList_load_blk rfl hq7 29 (.tmp 1) rfl rfl Tryz.underlying29 rfl hi ?_)
    | (refine wpList_store_blk rfl hr7 29 (.tmp 2) (.tmp 22) rfl rfl rfl rfl hi (by simp [cfgC, Value.oneCell']) ?_; intro w9 hr9 hg9))
  refine bodyPost_ret (results_c rfl _ rfl (load_blk hr9 Tryz.underlying29 rfl hi)) rfl ⟨a4, a4 + 1, rfl, ?_, below_own hB7 hg9 hB7.size (by omega)⟩
  have hk9 := hk7.grown hg9 (by intro e; injection e with e; omega)
  have hv9 := hv.grown hg9 (by intro e; injection e with e; omega)
  exact ex_in hk9 hv9 (by unfold IsI; decide)
theorem ex_dmp {w : World} {g h : Nat} {dF dS dC dH a b c d : Int} (q : CfgIn w (exC g h a b c d)) (hF : IsI dF ∧ IsI dS ∧ IsI dC ∧ IsI dH) : CfgIn w (exC g h dF dS dC dH) := ⟨q.id_, q.own_, q.nums, ⟨hF.1, hF.2.1, q.damp.2.2.1, hF.2.2.1, hF.2.2.2, q.damp.2.2.2.2.2⟩, q.lens, q.peers, q.vips, q.sites⟩
theorem below_chg9 {B : Nat} {w w1 w2 : World} {X : Nat → Prop} (hB : Below B w w1) (hC : Chg w1 w2 X) (hX : ∀ k, X k → B ≤ k) (hz : B ≤ w.heap.size) : Below B w w2 :=
  hB.trans ⟨hC.os, hC.tape, hC.output, hC.size, fun k hk => hC.block k (by have := hB.size; omega) fun q => by have := hX k q; omega⟩
theorem exL_ok {gb hb_ : Nat} : partC (exC gb hb_ 1 5 5 1) = 0 := by kernel_rfl
theorem exL_sm {gb hb_ : Nat} : CfgSm (exC gb hb_ 1 5 5 1) := ⟨(by decide : 0 ≤ 300), (by decide : 1 ≤ 300), (by decide : 0 ≤ 300), by intro x hx; rw [List.mem_singleton.1 hx]; exact (by decide : 2 ≤ 300)⟩
theorem exL_res {gb hb_ : Nat} : (resS (newS (exC gb hb_ 1 5 5 1) (exV gb) (mkM exB)) 1 true).1 = true := by kernel_rfl
theorem exL_want {gb hb_ : Nat} : wantS (resS (newS (exC gb hb_ 1 5 5 1) (exV gb) (mkM exB)) 1 true).2 false = 1 := by kernel_rfl
set_option maxRecDepth 100000 in
set_option maxHeartbeats 16000000 in
theorem lives33_any (w : World) : Calls Tryz.prog 34 #[] w fun e w' => e = .returned (.bool true) ∧ Below w.heap.size w w' := by
  go_enter Tryz.func34, Tryz.ntmps34
  go_upto_region 1 with (fail)
  have hi0 : (Tryz.prog.info? 29).map (·.size) = some 19 := by kernel_rfl
  go_upto_region 2 with (first
    | (go_at_call 103; refine (base_any w).mono ?_; rintro e w1 ⟨gb, hb_, rfl, hC, hB⟩; have hfr := Blk.new w1 29 #[.int .i64 0, .int .u32 0, .int .u32 0, .slice none 0 0, .slice none 0 0, .slice none 0 0, .int .i64 0, .int .i64 0, .int .i64 0, .int .i64 0, .int .i64 0, .int .i64 0, .int .i64 0, .int .i64 0, .int .i64 0, .int .i64 0, .int .i64 0, .int .i64 0, .int .i64 0])
    | (refine wpList_store_blk rfl hfr 29 (.tmp 1) (.tmp 4) rfl rfl rfl rfl (by exact hi0) (by simp [cfgC, Value.oneCell']) ?_; intro w2 hq hg))
  have hb2 := ((Below.refl w1.heap.size w1).alloc (Nat.le_refl _) (.cells #[.int .i64 0, .int .u32 0, .int .u32 0, .slice none 0 0, .slice none 0 0, .slice none 0 0, .int .i64 0, .int .i64 0, .int .i64 0, .int .i64 0, .int .i64 0, .int .i64 0, .int .i64 0, .int .i64 0, .int .i64 0, .int .i64 0, .int .i64 0, .int .i64 0, .int .i64 0] 29)).trans (Below.of_grown (B := w1.heap.size) hg (by simp) (Nat.le_refl _))
  have hz1 := hB.size
  clear hg hfr
  obtain ⟨B0, eB0⟩ : ∃ B0, B0 = w1.heap.size := ⟨_, rfl⟩
  rw [← eB0] at hq ⊢
  replace eB0 := Lib.hid eB0
  have c13 : w2.cell? ⟨B0, 13, none⟩ = some (.int .i64 0) := hq.cellv 13 rfl
  have f13 := hq.frozen 13
  have c14 : w2.cell? ⟨B0, 14, none⟩ = some (.int .i64 0) := hq.cellv 14 rfl
  have f14 := hq.frozen 14
  have c16 : w2.cell? ⟨B0, 16, none⟩ = some (.int .i64 0) := hq.cellv 16 rfl
  have f16 := hq.frozen 16
  have c17 : w2.cell? ⟨B0, 17, none⟩ = some (.int .i64 0) := hq.cellv 17 rfl
  have f17 := hq.frozen 17
  have ql := hq.lt
  obtain ⟨hq0, hg0⟩ := blk_store hq 13 (.int .i64 1)
  obtain ⟨hq1, hg1⟩ := blk_store hq0 14 (.int .i64 5)
  obtain ⟨hq2, hg2⟩ := blk_store hq1 16 (.int .i64 5)
  obtain ⟨hq3, hg3⟩ := blk_store hq2 17 (.int .i64 1)
  have hgg := (grown_trans (grown_trans (grown_trans hg0 hg1) hg2) hg3)
  have hql := hq3
  clear hg0 hg1 hg2 hg3 hq0 hq1 hq2 hq3
  replace hql : Blk ((((w2.setCell ⟨B0, 13, none⟩ (.int .i64 1)).setCell ⟨B0, 14, none⟩ (.int .i64 5)).setCell ⟨B0, 16, none⟩ (.int .i64 5)).setCell ⟨B0, 17, none⟩ (.int .i64 1)) B0 29 #[.int .i64 1, .int .u32 1, .int .u32 1, .slice none 0 0, .slice (some ⟨hb_, 0, none⟩) 1 1, .slice none 0 0, .int .i64 1, .int .i64 1, .int .i64 1, .int .i64 1, .int .i64 5, .int .i64 5, .int .i64 9000, .int .i64 1, .int .i64 5, .int .i64 0, .int .i64 5, .int .i64 1, .int .i64 5] := hql
  replace hgg := Lib.hid hgg
  replace hql := Lib.hid hql
  go_upto_region 3 with (fail)
  replace hgg := hgg.out
  replace hql := hql.out
  clear c13 f13 c14 f14 c16 f16 c17 f17 ql hq
  generalize (((w2.setCell ⟨B0, 13, none⟩ (.int .i64 1)).setCell ⟨B0, 14, none⟩ (.int .i64 5)).setCell ⟨B0, 16, none⟩ (.int .i64 5)).setCell ⟨B0, 17, none⟩ (.int .i64 1) = w3 at *
  have hq := hql
  clear hql
  rw [eB0.out] at hgg
  have hb3 := below_own hb2 hgg hb2.size (Nat.le_refl _)
  have hC3 := ex_dmp (dF := 1) (dS := 5) (dC := 5) (dH := 1) (hC.nx hb3) (by unfold IsI; decide)
  have hB3 := hB.trans (hb3.mono hz1)
  replace hq : Blk w3 B0 29 (cfgC (exC gb hb_ 1 5 5 1)) := hq
  clear hb2 hb3 hgg hC hB
  have hi : (Tryz.prog.info? 29).map (·.size) = some (cfgC (exC gb hb_ 1 5 5 1)).size := by kernel_rfl
  have hnew := vpNew_yes w3 (exC gb hb_ 1 5 5 1) hC3 exL_sm exL_ok 0 (exV gb) rfl
  rw [show ((0 : Nat) : Int) = 0 from rfl] at hnew
  have hgood := (newS_good (c := exC gb hb_ 1 5 5 1) (v := exV gb) (k := 0) exL_ok rfl).1
  go_upto_region 4 with (first
    | (refine wpList_load_blk rfl hq 29 (.tmp 1) rfl rfl Tryz.underlying29 rfl hi ?_)
    | (go_at_call 36; refine hnew.mono ?_; rintro e w4 ⟨g, X, rfl, hV, hX, hb⟩))
  clear hnew
  obtain ⟨d, p, pb, f, m, XF, kb, hR, hXf, hXl⟩ := hV
  have hB4 := hB3.trans (hb.mono hB3.size)
  have e2 : (exV gb).L = exB := rfl
  rw [e2] at hgood hR
  have hres := vpResult hR hgood 1 true (by omega) (by omega)
  rw [exL_res] at hres
  have hids : idsM (resS (newS (exC gb hb_ 1 5 5 1) (exV gb) (mkM exB)) 1 true).2.M = [0, 1] := by kernel_rfl
  have hg2 := resS_good (i := 1) (ok := true) hgood
  have hwant := @exL_want gb hb_
  go_wp2_with (first
    | (go_at_call 17; refine hres.mono ?_; rintro e w5 ⟨rfl, hR5, hC5⟩)
    | (go_at_call 20; have hl := vpLook hR5 hg2 false; rw [hwant] at hl; refine hl.mono ?_; rintro e w6 ⟨rfl, hR6, hC6⟩))
  go_ret
  refine ⟨rfl, below_chg9 (below_chg9 hB4 hC5 (fun k q => ?_) (Nat.le_refl _)) hC6 (fun k q => ?_) (Nat.le_refl _)⟩
  · exact Nat.le_trans hB3.size (hX k (hXf k q))
  · refine Nat.le_trans hB3.size (hX k (hXf k ?_))
    rcases q with q | q
    · exact .inl q
    · exact .inr (.inl q)
end Go.Proofs.YtgdeecmhhbdjgaaGreat
