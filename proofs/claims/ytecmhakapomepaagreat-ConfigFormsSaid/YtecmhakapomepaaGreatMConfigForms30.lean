import Derived.Test.YtecmhakapomepaaGreatMConfigForms23
import Derived.Test.YtecmhakapomepaaGreatMConfigForms27
import Derived.Test.YtecmhakapomepaaGreatMConfigForms29
import Derived.Test.YtecmhakapomepaaGreatMConfigForms2
import Derived.Test.YtecmhakapomepaaGreatMConfigForms4
import Derived.Lib.LazyBuf
/- config: Copy. -/
namespace Go.Proofs.YtecmhakapomepaaGreat
set_option linter.unusedVariables false
open Go Go.RowKit

theorem flat_cell {α : Type} {R : RK α} (e e' : α) (j : Nat) (v : Value) (hj : j < R.size) (hc : R.cel e' = (R.cel e).set j v) : ∀ (l : List α) (k : Nat), l[k]? = some e → (l.flatMap R.cel).set (k * R.size + j) v = (l.set k e').flatMap R.cel
  | [], k, h => by simp at h
  | a :: l, 0, h => by
    have ha : a = e := by simpa using h
    subst ha
    rw [List.set_cons_zero, List.flatMap_cons, List.flatMap_cons, Nat.zero_mul, Nat.zero_add, List.set_append_left _ _ (by rw [R.len]; exact hj), hc]
  | a :: l, k + 1, h => by
    rw [List.set_cons_succ, List.flatMap_cons, List.flatMap_cons, List.set_append_right _ _ (by rw [R.len, Nat.succ_mul]; omega), R.len, show (k + 1) * R.size + j - R.size = k * R.size + j by rw [Nat.succ_mul]; omega, flat_cell e e' j v hj hc l k (by simpa using h)]
theorem Rows.setCell {α : Type} {R : RK α} {w : World} {lo base g cap n : Nat} {et : TypeId} {l : List α} (h : Rows R w lo base et (.slice (some ⟨g, 0, Option.none⟩) n cap) l) (hn : l.length = n) {k : Nat} {e : α} (hk : l[k]? = some e) (e' : α) (j : Nat) (v : Value) (hj : j < R.size) (hc : R.cel e' = (R.cel e).set j v)
    (hok : R.ok w (fun b => lo ≤ b ∧ b < w.heap.size ∧ b ≠ g) e') : Rows R (w.setCell ⟨g, k * R.size + j, Option.none⟩ v) lo base et (.slice (some ⟨g, 0, Option.none⟩) n cap) (l.set k e') ∧ w.grownBy (w.setCell ⟨g, k * R.size + j, Option.none⟩ v) (some g) := by
  subst hn
  have h2 : w.grownBy (w.setCell ⟨g, k * R.size + j, Option.none⟩ v) (some g) := grown_setCell (grown_refl w _) (.inl rfl) v
  refine ⟨⟨?_, fun e3 he3 => ?_⟩, h2⟩
  · rw [List.length_set, ← flat_cell e e' j v hj hc l k hk]
    exact h.1.store _ _
  · have hold : R.ok w (fun b => lo ≤ b ∧ b < w.heap.size ∧ b ≠ g) e3 := by
      rcases List.mem_or_eq_of_mem_set he3 with he3 | rfl
      · exact R.more (h.2 e3 he3) fun b q => ⟨q.1, q.2.1, fun e => q.2.2 (by rw [e]; rfl)⟩
      · exact hok
    refine R.more (R.keep hold fun p hp => ?_) fun b q => ⟨q.1, Nat.lt_of_lt_of_le q.2.1 h2.size, fun e => q.2.2 (by injection e with e; exact e.symm)⟩
    unfold World.cell?
    rw [h2.block p.block hp.2.1 (fun e => hp.2.2 (by injection e))]
theorem vipQ_ok : ElemOk Tryz.prog 24 53 vipT.size 40 (.agg #[.int .u32 0, .int .i64 0, .slice none 0 0]) := ⟨Tryz.underlying24, by kernel_rfl, rfl, vipT.pos⟩
theorem set_same_w (l : List VipV) (k : Nat) (x y : VipV) (hk : l[k]? = some x) (hw : y.w = x.w) : (l.set k y).map VipV.w = l.map VipV.w := by
  apply List.ext_getElem?
  intro i
  rw [List.getElem?_map, List.getElem?_map]
  by_cases hi : k = i
  · subst hi
    have hlt := (List.getElem?_eq_some_iff.1 hk).1
    rw [List.getElem?_set_self hlt, hk]
    simp [hw]
  · rw [List.getElem?_set_ne hi]
set_option maxRecDepth 100000 in
set_option maxHeartbeats 4000000 in
theorem clonePC_any (w : World) (A : Option Addr) (n c lo : Nat) (H : List PeerV) (hS : Seen peerK w (fun b => b < w.heap.size) A n H) (hn : n ≤ 1000000) (hlo : lo ≤ w.heap.size) (hok : ∀ e ∈ H, peerK.ok w (fun b => lo ≤ b ∧ b < w.heap.size) e) :
    Calls Tryz.prog 48 #[.slice A n c] w fun e w' => ∃ v, e = .returned v ∧ Rows peerK w' lo w.heap.size 62 v H ∧ Below w.heap.size w w' := by
  have heq := fun w => Go.run_eql_slice_nil (P := Tryz.prog) w 23 62 A n c Tryz.underlying23
  cases A with
  | none =>
    obtain rfl : n = 0 := by
      rcases Nat.eq_zero_or_pos n with h | h
      · exact h
      · obtain ⟨b, off, e, _⟩ := hS.2.2 h
        cases e
    have hH : H = [] := List.eq_nil_of_length_eq_zero hS.1
    subst hH
    go_enter Tryz.func48, Tryz.ntmps48
    go_wp2_with fail
    go_ret
    exact ⟨_, rfl, Rows.nil _ _ _ _, Below.refl _ _⟩
  | some a =>
    have hb1 := (Below.refl w.heap.size w).alloc (Nat.le_refl _) (.cells #[] 62)
    have hr0 : Rows peerK (w.alloc (.cells #[] 62)) lo w.heap.size 62 (.slice (some ⟨w.heap.size, 0, none⟩) 0 0) [] :=
      ⟨by have := Own1.lit (base := w.heap.size) (et := 62) (size := peerK.size) w #[] 0 (Nat.le_refl _) (Nat.zero_le _) (by simp); exact this, by simp⟩
    have hS1 := hS.below hb1 fun b q => q
    have hz1 := hb1.size
    have hok1 : ∀ e ∈ H, peerK.ok (w.alloc (.cells #[] 62)) (fun b => lo ≤ b ∧ b < (w.alloc (.cells #[] 62)).heap.size ∧ (Value.slice (some ⟨w.heap.size, 0, none⟩) 0 0).ownBlock ≠ some b) e := fun e he =>
      peerK.more (peerK.keep (hok e he) fun p hp => hb1.cell hp.2) fun b q => ⟨q.1, Nat.lt_of_lt_of_le q.2 hz1, fun e2 => absurd (show (some w.heap.size : Option Nat) = some b from e2) (by simp; omega)⟩
    go_enter Tryz.func48, Tryz.ntmps48
    go_wp2_with (at_builtin; refine wpList_rows peerM_ok rfl (.tmp 5) (.tmp 6) rfl hr0 rfl rfl hS1 hok1 (by unfold maxLen; simp; omega) (by simp; omega) hz1 ?_; intro v4 w4 hv4 hg4)
    go_ret
    rw [List.nil_append] at hv4
    exact ⟨_, rfl, hv4, hb1.trans (hr0.below_app hg4 hz1)⟩
set_option maxRecDepth 100000 in
set_option maxHeartbeats 4000000 in
theorem cloneSC_any (w : World) (A : Option Addr) (n c lo : Nat) (H : List SiteV) (hS : Seen siteK w (fun b => b < w.heap.size) A n H) (hn : n ≤ 1000000) (hlo : lo ≤ w.heap.size) (hok : ∀ e ∈ H, siteK.ok w (fun b => lo ≤ b ∧ b < w.heap.size) e) :
    Calls Tryz.prog 49 #[.slice A n c] w fun e w' => ∃ v, e = .returned v ∧ Rows siteK w' lo w.heap.size 72 v H ∧ Below w.heap.size w w' := by
  have heq := fun w => Go.run_eql_slice_nil (P := Tryz.prog) w 25 72 A n c Tryz.underlying25
  cases A with
  | none =>
    obtain rfl : n = 0 := by
      rcases Nat.eq_zero_or_pos n with h | h
      · exact h
      · obtain ⟨b, off, e, _⟩ := hS.2.2 h
        cases e
    have hH : H = [] := List.eq_nil_of_length_eq_zero hS.1
    subst hH
    go_enter Tryz.func49, Tryz.ntmps49
    go_wp2_with fail
    go_ret
    exact ⟨_, rfl, Rows.nil _ _ _ _, Below.refl _ _⟩
  | some a =>
    have hb1 := (Below.refl w.heap.size w).alloc (Nat.le_refl _) (.cells #[] 72)
    have hr0 : Rows siteK (w.alloc (.cells #[] 72)) lo w.heap.size 72 (.slice (some ⟨w.heap.size, 0, none⟩) 0 0) [] :=
      ⟨by have := Own1.lit (base := w.heap.size) (et := 72) (size := siteK.size) w #[] 0 (Nat.le_refl _) (Nat.zero_le _) (by simp); exact this, by simp⟩
    have hS1 := hS.below hb1 fun b q => q
    have hz1 := hb1.size
    have hok1 : ∀ e ∈ H, siteK.ok (w.alloc (.cells #[] 72)) (fun b => lo ≤ b ∧ b < (w.alloc (.cells #[] 72)).heap.size ∧ (Value.slice (some ⟨w.heap.size, 0, none⟩) 0 0).ownBlock ≠ some b) e := fun e he =>
      siteK.more (siteK.keep (hok e he) fun p hp => hb1.cell hp.2) fun b q => ⟨q.1, Nat.lt_of_lt_of_le q.2 hz1, fun e2 => absurd (show (some w.heap.size : Option Nat) = some b from e2) (by simp; omega)⟩
    go_enter Tryz.func49, Tryz.ntmps49
    go_wp2_with (at_builtin; refine wpList_rows siteM_ok rfl (.tmp 5) (.tmp 6) rfl hr0 rfl rfl hS1 hok1 (by unfold maxLen; simp; omega) (by simp; omega) hz1 ?_; intro v4 w4 hv4 hg4)
    go_ret
    rw [List.nil_append] at hv4
    exact ⟨_, rfl, hv4, hb1.trans (hr0.below_app hg4 hz1)⟩
set_option maxRecDepth 100000 in
set_option maxHeartbeats 4000000 in
theorem cloneVC_any (w : World) (A : Option Addr) (n c lo : Nat) (H : List VipV) (hS : Seen vipT w (fun b => b < w.heap.size) A n H) (hn : n ≤ 1000000) (hlo : lo ≤ w.heap.size) (hok : ∀ e ∈ H, vipT.ok w (fun b => lo ≤ b ∧ b < w.heap.size) e) :
    Calls Tryz.prog 50 #[.slice A n c] w fun e w' => ∃ v, e = .returned v ∧ Rows vipT w' lo w.heap.size 53 v H ∧ Below w.heap.size w w' := by
  have heq := fun w => Go.run_eql_slice_nil (P := Tryz.prog) w 24 53 A n c Tryz.underlying24
  cases A with
  | none =>
    obtain rfl : n = 0 := by
      rcases Nat.eq_zero_or_pos n with h | h
      · exact h
      · obtain ⟨b, off, e, _⟩ := hS.2.2 h
        cases e
    have hH : H = [] := List.eq_nil_of_length_eq_zero hS.1
    subst hH
    go_enter Tryz.func50, Tryz.ntmps50
    go_wp2_with fail
    go_ret
    exact ⟨_, rfl, Rows.nil _ _ _ _, Below.refl _ _⟩
  | some a =>
    have hb1 := (Below.refl w.heap.size w).alloc (Nat.le_refl _) (.cells #[] 53)
    have hr0 : Rows vipT (w.alloc (.cells #[] 53)) lo w.heap.size 53 (.slice (some ⟨w.heap.size, 0, none⟩) 0 0) [] :=
      ⟨by have := Own1.lit (base := w.heap.size) (et := 53) (size := vipT.size) w #[] 0 (Nat.le_refl _) (Nat.zero_le _) (by simp); exact this, by simp⟩
    have hS1 := hS.below hb1 fun b q => q
    have hz1 := hb1.size
    have hok1 : ∀ e ∈ H, vipT.ok (w.alloc (.cells #[] 53)) (fun b => lo ≤ b ∧ b < (w.alloc (.cells #[] 53)).heap.size ∧ (Value.slice (some ⟨w.heap.size, 0, none⟩) 0 0).ownBlock ≠ some b) e := fun e he =>
      vipT.more (vipT.keep (hok e he) fun p hp => hb1.cell hp.2) fun b q => ⟨q.1, Nat.lt_of_lt_of_le q.2 hz1, fun e2 => absurd (show (some w.heap.size : Option Nat) = some b from e2) (by simp; omega)⟩
    go_enter Tryz.func50, Tryz.ntmps50
    go_wp2_with (at_builtin; refine wpList_rows vipQ_ok rfl (.tmp 5) (.tmp 6) rfl hr0 rfl rfl hS1 hok1 (by unfold maxLen; simp; omega) (by simp; omega) hz1 ?_; intro v4 w4 hv4 hg4)
    go_ret
    rw [List.nil_append] at hv4
    exact ⟨_, rfl, hv4, hb1.trans (hr0.below_app hg4 hz1)⟩
set_option maxRecDepth 100000 in
set_option maxHeartbeats 4000000 in
theorem cloneBC_any (w : World) (A : Option Addr) (n c lo : Nat) (H : List BndV) (hS : Seen bndK w (fun b => b < w.heap.size) A n H) (hn : n ≤ 1000000) (hlo : lo ≤ w.heap.size) (hok : ∀ e ∈ H, bndK.ok w (fun b => lo ≤ b ∧ b < w.heap.size) e) :
    Calls Tryz.prog 51 #[.slice A n c] w fun e w' => ∃ v, e = .returned v ∧ Rows bndK w' lo w.heap.size 67 v H ∧ Below w.heap.size w w' := by
  have heq := fun w => Go.run_eql_slice_nil (P := Tryz.prog) w 51 67 A n c Tryz.underlying51
  cases A with
  | none =>
    obtain rfl : n = 0 := by
      rcases Nat.eq_zero_or_pos n with h | h
      · exact h
      · obtain ⟨b, off, e, _⟩ := hS.2.2 h
        cases e
    have hH : H = [] := List.eq_nil_of_length_eq_zero hS.1
    subst hH
    go_enter Tryz.func51, Tryz.ntmps51
    go_wp2_with fail
    go_ret
    exact ⟨_, rfl, Rows.nil _ _ _ _, Below.refl _ _⟩
  | some a =>
    have hb1 := (Below.refl w.heap.size w).alloc (Nat.le_refl _) (.cells #[] 67)
    have hr0 : Rows bndK (w.alloc (.cells #[] 67)) lo w.heap.size 67 (.slice (some ⟨w.heap.size, 0, none⟩) 0 0) [] :=
      ⟨by have := Own1.lit (base := w.heap.size) (et := 67) (size := bndK.size) w #[] 0 (Nat.le_refl _) (Nat.zero_le _) (by simp); exact this, by simp⟩
    have hS1 := hS.below hb1 fun b q => q
    have hz1 := hb1.size
    have hok1 : ∀ e ∈ H, bndK.ok (w.alloc (.cells #[] 67)) (fun b => lo ≤ b ∧ b < (w.alloc (.cells #[] 67)).heap.size ∧ (Value.slice (some ⟨w.heap.size, 0, none⟩) 0 0).ownBlock ≠ some b) e := fun e he =>
      bndK.more (bndK.keep (hok e he) fun p hp => hb1.cell hp.2) fun b q => ⟨q.1, Nat.lt_of_lt_of_le q.2 hz1, fun e2 => absurd (show (some w.heap.size : Option Nat) = some b from e2) (by simp; omega)⟩
    go_enter Tryz.func51, Tryz.ntmps51
    go_wp2_with (at_builtin; refine wpList_rows bndM_ok rfl (.tmp 5) (.tmp 6) rfl hr0 rfl rfl hS1 hok1 (by unfold maxLen; simp; omega) (by simp; omega) hz1 ?_; intro v4 w4 hv4 hg4)
    go_ret
    rw [List.nil_append] at hv4
    exact ⟨_, rfl, hv4, hb1.trans (hr0.below_app hg4 hz1)⟩
set_option maxRecDepth 100000 in
set_option maxHeartbeats 4000000 in
theorem copyC_any (w : World) (c : CfgV) (h : CfgIn w c) (hs : CfgSm c) : Calls Tryz.prog 13 #[.agg (cfgC c)] w fun e w' => ∃ c' : CfgV, e = .returned (.agg (cfgC c')) ∧ CfgIn w' c' ∧ CfgSm c' ∧ c'.w = c.w ∧ Below w.heap.size w w' := by
  have hB := ((Below.refl w.heap.size w).alloc (Nat.le_refl _) (.cells (cfgC c) 29)).alloc (by simp) (.cells #[.int .i64 0, .int .u32 0, .int .u32 0, .slice none 0 0, .slice none 0 0, .slice none 0 0, .int .i64 0, .int .i64 0, .int .i64 0, .int .i64 0, .int .i64 0, .int .i64 0, .int .i64 0, .int .i64 0, .int .i64 0, .int .i64 0, .int .i64 0, .int .i64 0, .int .i64 0] 29)
  have h1 := (Blk.new w 29 (cfgC c)).alloc (.cells #[.int .i64 0, .int .u32 0, .int .u32 0, .slice none 0 0, .slice none 0 0, .slice none 0 0, .int .i64 0, .int .i64 0, .int .i64 0, .int .i64 0, .int .i64 0, .int .i64 0, .int .i64 0, .int .i64 0, .int .i64 0, .int .i64 0, .int .i64 0, .int .i64 0, .int .i64 0] 29)
  have h2 := Blk.new (w.alloc (.cells (cfgC c) 29)) 29 #[.int .i64 0, .int .u32 0, .int .u32 0, .slice none 0 0, .slice none 0 0, .slice none 0 0, .int .i64 0, .int .i64 0, .int .i64 0, .int .i64 0, .int .i64 0, .int .i64 0, .int .i64 0, .int .i64 0, .int .i64 0, .int .i64 0, .int .i64 0, .int .i64 0, .int .i64 0]
  rw [World.size_alloc] at h2
  have hA := h.nx hB
  go_enter Tryz.func13, Tryz.ntmps13
  go_upto_region 1 with (fail)
  generalize (w.alloc (.cells (cfgC c) 29)).alloc (.cells #[.int .i64 0, .int .u32 0, .int .u32 0, .slice none 0 0, .slice none 0 0, .slice none 0 0, .int .i64 0, .int .i64 0, .int .i64 0, .int .i64 0, .int .i64 0, .int .i64 0, .int .i64 0, .int .i64 0, .int .i64 0, .int .i64 0, .int .i64 0, .int .i64 0, .int .i64 0] 29) = w1 at *
  generalize hg2 : w.heap.size + 1 = g2 at *
  have hl1 := h1.lt
  have hl2 := h2.lt
  have hsp := hs.p
  have hsv := hs.v
  have hss := hs.s
  have q3 : w1.cell? ⟨w.heap.size, 3, none⟩ = some (.slice c.pA c.pn c.pc) := h1.cellv 3 rfl
  have q4 : w1.cell? ⟨w.heap.size, 4, none⟩ = some (.slice c.vA c.vn c.vc) := h1.cellv 4 rfl
  have q5 : w1.cell? ⟨w.heap.size, 5, none⟩ = some (.slice c.sA c.sn c.sc) := h1.cellv 5 rfl
  -- region 1: 0 1 2C 3 4 5C 6 7 8C 9 10M 11 12M 13 14M
  try refine wp_region_noPanic ?_
  have hs1r : Below w1.heap.size w1 w1.drew := (Below.refl _ _).drew
  refine wp_region_F 9 (S := fun w' => Below w1.heap.size w1 w') (by kernel_rfl) hs1r (fun _ => ?_)
  (refine f_takeA 0 (by rfl) ?_ (by kernel_rfl) (fun _ _ _ h => h) hs1r ?_ ?_; rotate_left; (focus (intro wq hSw; have hrd : ∀ b o, b < w1.heap.size → wq.cell? ⟨b, o, none⟩ = w1.cell? ⟨b, o, none⟩ := (fun b o h => hSw.cell (p := ⟨b, o, none⟩) h); go_simp; try with_reducible rfl; done)); try simp only [Act.put, List.setIfInBounds_toArray, List.set_cons_zero, List.set_cons_succ])
  (refine f_takeA 1 (by rfl) ?_ (by kernel_rfl) (fun _ _ _ h => h) hs1r ?_ ?_; rotate_left; (focus (intro wq hSw; have hrd : ∀ b o, b < w1.heap.size → wq.cell? ⟨b, o, none⟩ = w1.cell? ⟨b, o, none⟩ := (fun b o h => hSw.cell (p := ⟨b, o, none⟩) h); go_simp; try with_reducible rfl; done)); try simp only [Act.put, List.setIfInBounds_toArray, List.set_cons_zero, List.set_cons_succ])
  (refine f_takeA 3 (by rfl) ?_ (by kernel_rfl) (fun _ _ _ h => h) hs1r ?_ ?_; rotate_left; (focus (intro wq hSw; have hrd : ∀ b o, b < w1.heap.size → wq.cell? ⟨b, o, none⟩ = w1.cell? ⟨b, o, none⟩ := (fun b o h => hSw.cell (p := ⟨b, o, none⟩) h); go_simp; try with_reducible rfl; done)); try simp only [Act.put, List.setIfInBounds_toArray, List.set_cons_zero, List.set_cons_succ])
  (refine f_takeA 4 (by rfl) ?_ (by kernel_rfl) (fun _ _ _ h => h) hs1r ?_ ?_; rotate_left; (focus (intro wq hSw; have hrd : ∀ b o, b < w1.heap.size → wq.cell? ⟨b, o, none⟩ = w1.cell? ⟨b, o, none⟩ := (fun b o h => hSw.cell (p := ⟨b, o, none⟩) h); go_simp; try with_reducible rfl; done)); try simp only [Act.put, List.setIfInBounds_toArray, List.set_cons_zero, List.set_cons_succ])
  (refine f_takeA 6 (by rfl) ?_ (by kernel_rfl) (fun _ _ _ h => h) hs1r ?_ ?_; rotate_left; (focus (intro wq hSw; have hrd : ∀ b o, b < w1.heap.size → wq.cell? ⟨b, o, none⟩ = w1.cell? ⟨b, o, none⟩ := (fun b o h => hSw.cell (p := ⟨b, o, none⟩) h); go_simp; try with_reducible rfl; done)); try simp only [Act.put, List.setIfInBounds_toArray, List.set_cons_zero, List.set_cons_succ])
  (refine f_takeA 7 (by rfl) ?_ (by kernel_rfl) (fun _ _ _ h => h) hs1r ?_ ?_; rotate_left; (focus (intro wq hSw; have hrd : ∀ b o, b < w1.heap.size → wq.cell? ⟨b, o, none⟩ = w1.cell? ⟨b, o, none⟩ := (fun b o h => hSw.cell (p := ⟨b, o, none⟩) h); go_simp; try with_reducible rfl; done)); try simp only [Act.put, List.setIfInBounds_toArray, List.set_cons_zero, List.set_cons_succ])
  refine f_callA 2 (by rfl) (by kernel_rfl) (by rfl) (fun KQ hKQ => ?_)
  go_simp
  refine (clonePC_any w1.drew c.pA c.pn c.pc w1.drew.heap.size c.P (seen_nx hA.peers (Below.refl _ _).drew) (by omega) (Nat.le_refl _) (fun e he => hA.peers.2.1 e he)).mono ?_
  rintro e m1 ⟨v3, rfl, hr3, hb⟩
  replace hb : Below w1.heap.size w1 m1 := (Below.refl w1.heap.size w1).drew.trans hb
  have hb0 := hb
  obtain ⟨A3, k3, rfl, hc3, hm3, hS3⟩ := hr3.seen (Nat.le_refl _)
  clear hr3
  replace hS3 : Seen peerK m1 (fun b => w1.heap.size ≤ b ∧ b < m1.heap.size) A3 c.P.length c.P := hS3
  replace h1 := h1.below hb hl1
  replace h2 := h2.below hb hl2
  replace hA := hA.nx hb
  replace hB := hB.trans (hb.mono hB.size)
  clear hb
  have hs2r := hb0
  refine hKQ.out _ _ hs2r ?_
  clear hKQ KQ
  try simp only [Act.put, List.setIfInBounds_toArray, List.set_cons_zero, List.set_cons_succ]
  (refine f_takeA 9 (by rfl) ?_ (by kernel_rfl) (fun _ _ _ h => h) hs2r ?_ ?_; rotate_left; (focus (intro wq hSw; have hrd : ∀ b o, b < w1.heap.size → wq.cell? ⟨b, o, none⟩ = w1.cell? ⟨b, o, none⟩ := (fun b o h => hSw.cell (p := ⟨b, o, none⟩) h); go_simp; try with_reducible rfl; done)); try simp only [Act.put, List.setIfInBounds_toArray, List.set_cons_zero, List.set_cons_succ])
  refine f_callA 5 (by rfl) (by kernel_rfl) (by rfl) (fun KQ hKQ => ?_)
  go_simp
  refine (cloneSC_any m1 c.sA c.sn c.sc m1.heap.size c.S hA.sites (by omega) (Nat.le_refl _) (fun e he => hA.sites.2.1 e he)).mono ?_
  rintro e m2 ⟨v5, rfl, hr5, hb⟩
  have hb3 := hb0.trans (hb.mono hb0.size)
  have hz1 := hb0.size
  have hz2 := hb.size
  obtain ⟨A5, k5, rfl, hc5, hm5, hS5⟩ := hr5.seen (Nat.le_refl _)
  clear hr5
  replace hS3 := hS3.below hb fun b q => q.2
  replace h1 := h1.below hb h1.lt
  replace h2 := h2.below hb h2.lt
  replace hA := hA.nx hb
  replace hB := hB.trans (hb.mono hB.size)
  clear hb hb0
  have hs3r := hb3
  refine hKQ.out _ _ hs3r ?_
  clear hKQ KQ
  try simp only [Act.put, List.setIfInBounds_toArray, List.set_cons_zero, List.set_cons_succ]
  refine f_callA 8 (by rfl) (by kernel_rfl) (by rfl) (fun KQ hKQ => ?_)
  go_simp
  refine (cloneVC_any m2 c.vA c.vn c.vc m2.heap.size c.V ⟨hA.vips.1, fun _ _ => trivial, hA.vips.2.2⟩ (by omega) (Nat.le_refl _) (fun _ _ => trivial)).mono ?_
  rintro e m3 ⟨v4, rfl, hr4, hb⟩
  have hb4 := hb3.trans (hb.mono hb3.size)
  have hz3 := hb.size
  obtain ⟨A4, k4, rfl, hc4, hm4, -⟩ := hr4.seen (Nat.le_refl _)
  have hA4 : ∀ a, A4 = some a → a.block < m3.heap.size := fun a ha => (hr4.own a.block (by rw [ha]; rfl)).2
  replace hS3 := hS3.below hb fun b q => Nat.lt_of_lt_of_le q.2 hz2
  replace hS5 := hS5.below hb fun b q => q.2
  replace h1 := h1.below hb h1.lt
  replace h2 := h2.below hb h2.lt
  replace hB := hB.trans (hb.mono hB.size)
  clear hb hb3 q3 q4 q5 hA
  have hs4r := hb4
  refine hKQ.out _ _ hs4r ?_
  clear hKQ KQ
  try simp only [Act.put, List.setIfInBounds_toArray, List.set_cons_zero, List.set_cons_succ]
  clear hb4
  obtain ⟨n3, hn3⟩ : ∃ n, n = c.P.length := ⟨_, rfl⟩
  obtain ⟨n4, hn4⟩ : ∃ n, n = c.V.length := ⟨_, rfl⟩
  obtain ⟨n5, hn5⟩ : ∃ n, n = c.S.length := ⟨_, rfl⟩
  rw [← hn3] at hS3 hc3 ⊢
  rw [← hn4] at hr4 hc4 ⊢
  rw [← hn5] at hS5 hc5 ⊢
  have en3 : n3 = c.pn := hn3.trans h.peers.1
  have en4 : n4 = c.vn := hn4.trans h.vips.1
  have en5 : n5 = c.sn := hn5.trans h.sites.1
  replace hsp : n3 ≤ 300 := by omega
  replace hsv : n4 ≤ 300 := by omega
  replace hss : n5 ≤ 300 := by omega
  clear en3 en4 en5
  replace hn3 := Lib.hid hn3
  replace hn4 := Lib.hid hn4
  replace hn5 := Lib.hid hn5
  replace hg2 := Lib.hid hg2
  have z0 := h1.cellv 3 (v := .slice c.pA c.pn c.pc) rfl
  have f0 := h1.frozen 3
  have l0 := h1.lt
  refine f_last 10 (by rfl) (by rfl) (by kernel_rfl) (by rfl) (fun KQ hKQ => ?_)
  go_simp
  obtain ⟨so1, so2⟩ := blk_store h1 3 (.slice A3 n3 k3)
  clear f0 l0 z0
  generalize m3.setCell ⟨w.heap.size, 3, none⟩ (.slice A3 n3 k3) = m4 at *
  replace h1 : Blk m4 w.heap.size 29 #[.int .i64 c.as_, .int .u32 c.id, .int .u32 c.own, .slice A3 n3 k3, .slice c.vA c.vn c.vc, .slice c.sA c.sn c.sc, .int .i64 c.rise, .int .i64 c.fall, .int .i64 c.every, .int .i64 c.pat, .int .i64 c.room, .int .i64 c.idle, .int .i64 c.queue, .int .i64 c.dF, .int .i64 c.dS, .int .i64 c.dR, .int .i64 c.dC, .int .i64 c.dH, .int .i64 c.ttl] := so1
  clear so1
  replace h2 := h2.grown so2 (by have := hg2.out; simp; omega)
  replace hS3 := hS3.grown so2 fun b q => ⟨by omega, by simp; omega⟩
  replace hS5 := hS5.grown so2 fun b q => ⟨by omega, by simp; omega⟩
  replace hr4 := hr4.kept so2 (fun k e => by injection e; omega) (Nat.le_refl _)
  replace hB := below_own hB so2 hB.size (Nat.le_refl _)
  have zz0 := so2.size
  refine hKQ.out _ _ ?_
  clear hKQ KQ
  try simp only [Act.put]
  clear so2
  refine f_last 11 (by rfl) (by rfl) (by kernel_rfl) (by rfl) (fun KQ hKQ => ?_)
  go_simp
  refine hKQ.out _ _ ?_
  clear hKQ KQ
  try simp only [Act.put, List.setIfInBounds_toArray, List.set_cons_zero, List.set_cons_succ]
  have z0 := h1.cellv 5 (v := .slice c.sA c.sn c.sc) rfl
  have f0 := h1.frozen 5
  have l0 := h1.lt
  refine f_last 12 (by rfl) (by rfl) (by kernel_rfl) (by rfl) (fun KQ hKQ => ?_)
  go_simp
  obtain ⟨so1, so2⟩ := blk_store h1 5 (.slice A5 n5 k5)
  clear f0 l0 z0
  generalize m4.setCell ⟨w.heap.size, 5, none⟩ (.slice A5 n5 k5) = m5 at *
  replace h1 : Blk m5 w.heap.size 29 #[.int .i64 c.as_, .int .u32 c.id, .int .u32 c.own, .slice A3 n3 k3, .slice c.vA c.vn c.vc, .slice A5 n5 k5, .int .i64 c.rise, .int .i64 c.fall, .int .i64 c.every, .int .i64 c.pat, .int .i64 c.room, .int .i64 c.idle, .int .i64 c.queue, .int .i64 c.dF, .int .i64 c.dS, .int .i64 c.dR, .int .i64 c.dC, .int .i64 c.dH, .int .i64 c.ttl] := so1
  clear so1
  replace h2 := h2.grown so2 (by have := hg2.out; simp; omega)
  replace hS3 := hS3.grown so2 fun b q => ⟨by omega, by simp; omega⟩
  replace hS5 := hS5.grown so2 fun b q => ⟨by omega, by simp; omega⟩
  replace hr4 := hr4.kept so2 (fun k e => by injection e; omega) (Nat.le_refl _)
  replace hB := below_own hB so2 hB.size (Nat.le_refl _)
  have zz1 := so2.size
  refine hKQ.out _ _ ?_
  clear hKQ KQ
  try simp only [Act.put]
  clear so2
  refine f_last 13 (by rfl) (by rfl) (by kernel_rfl) (by rfl) (fun KQ hKQ => ?_)
  go_simp
  refine hKQ.out _ _ ?_
  clear hKQ KQ
  try simp only [Act.put, List.setIfInBounds_toArray, List.set_cons_zero, List.set_cons_succ]
  have z0 := h1.cellv 4 (v := .slice c.vA c.vn c.vc) rfl
  have f0 := h1.frozen 4
  have l0 := h1.lt
  refine f_last 14 (by rfl) (by rfl) (by kernel_rfl) (by rfl) (fun KQ hKQ => ?_)
  go_simp
  obtain ⟨so1, so2⟩ := blk_store h1 4 (.slice A4 n4 k4)
  clear f0 l0 z0
  generalize m5.setCell ⟨w.heap.size, 4, none⟩ (.slice A4 n4 k4) = m6 at *
  replace h1 : Blk m6 w.heap.size 29 #[.int .i64 c.as_, .int .u32 c.id, .int .u32 c.own, .slice A3 n3 k3, .slice A4 n4 k4, .slice A5 n5 k5, .int .i64 c.rise, .int .i64 c.fall, .int .i64 c.every, .int .i64 c.pat, .int .i64 c.room, .int .i64 c.idle, .int .i64 c.queue, .int .i64 c.dF, .int .i64 c.dS, .int .i64 c.dR, .int .i64 c.dC, .int .i64 c.dH, .int .i64 c.ttl] := so1
  clear so1
  replace h2 := h2.grown so2 (by have := hg2.out; simp; omega)
  replace hS3 := hS3.grown so2 fun b q => ⟨by omega, by simp; omega⟩
  replace hS5 := hS5.grown so2 fun b q => ⟨by omega, by simp; omega⟩
  replace hr4 := hr4.kept so2 (fun k e => by injection e; omega) (Nat.le_refl _)
  replace hB := below_own hB so2 hB.size (Nat.le_refl _)
  have zz2 := so2.size
  refine hKQ.out _ _ ?_
  clear hKQ KQ
  try simp only [Act.put]
  clear so2
  refine f_done (by kernel_rfl) ?_ _
  try refine NoPanic.normal ?_
  obtain ⟨c2, hc2⟩ : ∃ c2 : CfgV, c2 = { c with pA := A3, pn := n3, pc := k3, vA := A4, vn := n4, vc := k4, sA := A5, sn := n5, sc := k5 } := ⟨_, rfl⟩
  replace h1 : Blk m6 w.heap.size 29 (cfgC c2) := by rw [hc2]; exact h1
  have e4 : ∀ w' : World, Blk w' w.heap.size 29 (cfgC c2) → w'.cell? ⟨w.heap.size, 4, none⟩ = some (.slice A4 n4 k4) := fun w' hq => by
    have := hq.cellv 4 (v := .slice c2.vA c2.vn c2.vc) rfl
    rw [this, hc2]
  replace e4 := Lib.hid e4
  replace hc2 := Lib.hid hc2
  obtain ⟨B4, hB4⟩ : ∃ B, B = m2.heap.size := ⟨_, rfl⟩
  obtain ⟨T, hT⟩ : ∃ B, B = m3.heap.size := ⟨_, rfl⟩
  have hgB : w.heap.size < B4 := by omega
  have hg2B : g2 < B4 := by omega
  have hBT : B4 ≤ T := by omega
  have hTw : T ≤ m6.heap.size := by omega
  obtain ⟨lo3, hlo3⟩ : ∃ B, B = w1.heap.size := ⟨_, rfl⟩
  obtain ⟨hi3, hhi3⟩ : ∃ B, B = m1.heap.size := ⟨_, rfl⟩
  have hlo : w.heap.size < lo3 ∧ g2 < lo3 ∧ lo3 ≤ hi3 ∧ hi3 ≤ B4 := by omega
  rw [← hlo3, ← hhi3] at hS3
  rw [← hhi3, ← hB4] at hS5
  rw [← hB4] at hr4
  rw [← hT] at hA4
  replace hA4 := Lib.hid hA4
  have hokv : ∀ x ∈ c.V, vipK.ok m6 (fun b => (b < w.heap.size ∨ T ≤ b) ∧ b < m6.heap.size) x := fun x hx => vipK.more (vipK.keep (h.vips.2.1 x hx) fun p hp => hB.cell hp) fun b q => ⟨.inl q, Nat.lt_of_lt_of_le q hB.size⟩
  clear hB4 hT hlo3 hhi3 hz1 hz2 hz3 zz0 zz1 zz2 hl1 hl2
  have l1 := h1.lt
  have q4 := e4.out m6 h1
  go_upto_region 3 with (fail)
  clear l1 q4
  go_loopw [20] (fun i wr => ∃ (k : Nat) (L : List VipV), k ≤ n4 ∧ i = .int .i64 (k : Int) ∧ L.length = n4 ∧ Rows vipT wr B4 B4 53 (.slice A4 n4 k4) L ∧ L.map VipV.w = c.V.map VipV.w ∧ (∀ x ∈ L, x.n ≤ 300) ∧ (∀ x ∈ L, vipK.ok wr (fun b => (b < w.heap.size ∨ T ≤ b) ∧ b < wr.heap.size) x) ∧ Blk wr w.heap.size 29 (cfgC c2) ∧ Blk wr g2 29 #[.int .i64 0, .int .u32 0, .int .u32 0, .slice none 0 0, .slice none 0 0, .slice none 0 0, .int .i64 0, .int .i64 0, .int .i64 0, .int .i64 0, .int .i64 0, .int .i64 0, .int .i64 0, .int .i64 0, .int .i64 0, .int .i64 0, .int .i64 0, .int .i64 0, .int .i64 0] ∧ Seen peerK wr (fun b => lo3 ≤ b ∧ b < hi3) A3 n3 c.P ∧ Seen siteK wr (fun b => hi3 ≤ b ∧ b < B4) A5 n5 c.S ∧ Below w.heap.size w wr ∧ T ≤ wr.heap.size) (fun i _ => n4 - (intOf i).toNat)
  case atStart => exact ⟨0, c.V, Nat.zero_le _, rfl, hn4.out.symm, hr4, rfl, hs.b, hokv, h1, h2, hS3, hS5, hB, hTw⟩
  case round =>
  clear hr4 hokv h1 h2 hS3 hS5 hB hTw
  obtain ⟨k, L, hk, rfl, hL, hr, hw, hbn, hok, h1, h2, hS3, hS5, hB, hTw⟩ := hrel
  have hL2 := Lib.hid hL
  replace hw := Lib.hid hw
  by_cases hlt : k < n4
  · have hki : (k : Int) < n4 := by omega
    have hk0 : (0 : Int) ≤ k := by omega
    have hk3 : (k : Int) ≤ 300 := by omega
    obtain ⟨g4, cap4, e1, hg4, hg4l, -, -⟩ := hr.1.form (by omega)
    obtain rfl : A4 = some ⟨g4, 0, none⟩ := by injection e1
    clear e1
    have hg4T : g4 < T := hA4.out _ rfl
    have hkL : k < L.length := by omega
    have hown : Own1 wr B4 53 3 (.slice (some ⟨g4, 0, none⟩) n4 k4) n4 (L.flatMap vipT.cel) := by have := hr.1; rw [hL] at this; exact this
    clear hL
    obtain ⟨x, hx⟩ : ∃ x, L[k]? = some x := ⟨_, List.getElem?_eq_getElem (by omega)⟩
    have qc : ∀ i v, i < 3 → (vipC x)[i]? = some v → wr.cell? ⟨g4, k * 3 + i, none⟩ = some v := fun i v hi hv => by
      rw [hown.cell _ (show k * 3 + i < n4 * 3 by omega)]
      exact (flat_get (R := vipT) L k i x hx hi).trans hv
    have q0 : wr.cell? ⟨g4, k * 3, none⟩ = some (.int .u32 x.ad) := qc 0 _ (by omega) rfl
    have q1 : wr.cell? ⟨g4, k * 3 + 1, none⟩ = some (.int .i64 x.pct) := qc 1 _ (by omega) rfl
    have q2 : wr.cell? ⟨g4, k * 3 + 2, none⟩ = some (.slice x.A x.n x.c) := qc 2 _ (by omega) rfl
    clear qc
    have hokx := hok x (List.mem_of_getElem? hx)
    have hbx := (Below.refl wr.heap.size wr).alloc (Nat.le_refl _) (.cells #[.int .u32 x.ad, .int .i64 x.pct, .slice x.A x.n x.c] 53)
    have h5 := Blk.new wr 53 #[.int .u32 x.ad, .int .i64 x.pct, .slice x.A x.n x.c]
    go_upto_region 5 with (fail)
    generalize wr.alloc (.cells #[.int .u32 x.ad, .int .i64 x.pct, .slice x.A x.n x.c] 53) = m7 at *
    clear q0 q1 q2
    have hxT : T ≤ wr.heap.size := hTw
    have hz7 := hbx.size
    replace hr := hr.below hbx
    replace hown := hown.below hbx
    replace hok : ∀ x ∈ L, vipK.ok m7 (fun b => (b < w.heap.size ∨ T ≤ b) ∧ b < m7.heap.size) x := fun x hx => vipK.more (vipK.keep (hok x hx) fun p hp => hbx.cell hp.2) fun b q => ⟨q.1, Nat.lt_of_lt_of_le q.2 hz7⟩
    replace hokx := hok x (List.mem_of_getElem? hx)
    replace h1 := h1.below hbx h1.lt
    replace h2 := h2.below hbx h2.lt
    replace hS3 := hS3.below hbx fun b q => by omega
    replace hS5 := hS5.below hbx fun b q => by omega
    replace hB := hB.trans (hbx.mono hB.size)
    replace hTw := Nat.le_trans hTw hz7
    clear hbx
    have l1 := h1.lt
    have l5 := h5.lt
    have q4 := e4.out m7 h1
    have q2 : m7.cell? ⟨wr.heap.size, 2, none⟩ = some (.slice x.A x.n x.c) := h5.cellv 2 rfl
    have hxn := hbn x (List.mem_of_getElem? hx)
    -- region 5: 0 1 2 3 4 5C 6 7 8M
    try refine wp_region_noPanic ?_
    have hs5r : Below m7.heap.size m7 m7.drew := (Below.refl _ _).drew
    refine wp_region_E 8 (S := fun w' => Below m7.heap.size m7 w') (by kernel_rfl) hs5r (fun _ => ?_)
    (refine e_takeA 0 (by rfl) ?_ (by kernel_rfl) (fun _ _ _ h => h) hs5r ?_ ?_; rotate_left; (focus (intro wq hSw; have hrd : ∀ b o, b < m7.heap.size → wq.cell? ⟨b, o, none⟩ = m7.cell? ⟨b, o, none⟩ := (fun b o h => hSw.cell (p := ⟨b, o, none⟩) h); go_simp; try with_reducible rfl; done)); try simp only [Act.put, List.setIfInBounds_toArray, List.set_cons_zero, List.set_cons_succ])
    (refine e_takeA 1 (by rfl) ?_ (by kernel_rfl) (fun _ _ _ h => h) hs5r ?_ ?_; rotate_left; (focus (intro wq hSw; have hrd : ∀ b o, b < m7.heap.size → wq.cell? ⟨b, o, none⟩ = m7.cell? ⟨b, o, none⟩ := (fun b o h => hSw.cell (p := ⟨b, o, none⟩) h); go_simp; try with_reducible rfl; done)); try simp only [Act.put, List.setIfInBounds_toArray, List.set_cons_zero, List.set_cons_succ])
    (refine e_takeA 2 (by rfl) ?_ (by kernel_rfl) (fun _ _ _ h => h) hs5r ?_ ?_; rotate_left; (focus (intro wq hSw; have hrd : ∀ b o, b < m7.heap.size → wq.cell? ⟨b, o, none⟩ = m7.cell? ⟨b, o, none⟩ := (fun b o h => hSw.cell (p := ⟨b, o, none⟩) h); go_simp; try with_reducible rfl; done)); try simp only [Act.put, List.setIfInBounds_toArray, List.set_cons_zero, List.set_cons_succ])
    (refine e_takeA 3 (by rfl) ?_ (by kernel_rfl) (fun _ _ _ h => h) hs5r ?_ ?_; rotate_left; (focus (intro wq hSw; have hrd : ∀ b o, b < m7.heap.size → wq.cell? ⟨b, o, none⟩ = m7.cell? ⟨b, o, none⟩ := (fun b o h => hSw.cell (p := ⟨b, o, none⟩) h); go_simp; try with_reducible rfl; done)); try simp only [Act.put, List.setIfInBounds_toArray, List.set_cons_zero, List.set_cons_succ])
    (refine e_takeA 4 (by rfl) ?_ (by kernel_rfl) (fun _ _ _ h => h) hs5r ?_ ?_; rotate_left; (focus (intro wq hSw; have hrd : ∀ b o, b < m7.heap.size → wq.cell? ⟨b, o, none⟩ = m7.cell? ⟨b, o, none⟩ := (fun b o h => hSw.cell (p := ⟨b, o, none⟩) h); go_simp; try with_reducible rfl; done)); try simp only [Act.put, List.setIfInBounds_toArray, List.set_cons_zero, List.set_cons_succ])
    refine e_callA 5 (by rfl) (by kernel_rfl) (by rfl) (fun KQ hKQ => ?_)
    go_simp
    refine (cloneBC_any m7.drew x.A x.n x.c m7.drew.heap.size x.L ((hokx.2.2.2.2.below (Below.refl m7.heap.size m7).drew fun b q => q.2).more fun b q => q.2) (by omega) (Nat.le_refl _) (fun e he => hokx.2.2.2.2.2.1 e he)).mono ?_
    rintro e m8 ⟨v5, rfl, hr5, hb⟩
    replace hb : Below m7.heap.size m7 m8 := (Below.refl m7.heap.size m7).drew.trans hb
    have hb0 := hb
    have hz8 := hb.size
    obtain ⟨A8, k8, rfl, hc8, hm8, hS8⟩ := hr5.seen (Nat.le_refl _)
    have hxl := hokx.2.2.2.2.1
    rw [hxl] at hc8 hS8 ⊢
    replace hxl := Lib.hid hxl
    replace hS8 : Seen bndK m8 (fun b => m7.heap.size ≤ b ∧ b < m8.heap.size) A8 x.n x.L := hS8
    clear hr5
    replace hr := hr.below hb
    replace hown := hown.below hb
    replace hok : ∀ x ∈ L, vipK.ok m8 (fun b => (b < w.heap.size ∨ T ≤ b) ∧ b < m8.heap.size) x := fun x hx => vipK.more (vipK.keep (hok x hx) fun p hp => hb.cell hp.2) fun b q => ⟨q.1, Nat.lt_of_lt_of_le q.2 hz8⟩
    replace h1 := h1.below hb h1.lt
    replace h2 := h2.below hb h2.lt
    replace hS3 := hS3.below hb fun b q => by omega
    replace hS5 := hS5.below hb fun b q => by omega
    replace hB := hB.trans (hb.mono hB.size)
    clear hb
    have hs6r := hb0
    refine hKQ.out _ _ hs6r ?_
    clear hKQ KQ
    try simp only [Act.put, List.setIfInBounds_toArray, List.set_cons_zero, List.set_cons_succ]
    (refine e_takeA 6 (by rfl) ?_ (by kernel_rfl) (fun _ _ _ h => h) hs6r ?_ ?_; rotate_left; (focus (intro wq hSw; have hrd : ∀ b o, b < m7.heap.size → wq.cell? ⟨b, o, none⟩ = m7.cell? ⟨b, o, none⟩ := (fun b o h => hSw.cell (p := ⟨b, o, none⟩) h); go_simp; try with_reducible rfl; done)); try simp only [Act.put, List.setIfInBounds_toArray, List.set_cons_zero, List.set_cons_succ])
    (refine e_takeA 7 (by rfl) ?_ (by kernel_rfl) (fun _ _ _ h => h) hs6r ?_ ?_; rotate_left; (focus (intro wq hSw; have hrd : ∀ b o, b < m7.heap.size → wq.cell? ⟨b, o, none⟩ = m7.cell? ⟨b, o, none⟩ := (fun b o h => hSw.cell (p := ⟨b, o, none⟩) h); go_simp; try with_reducible rfl; done)); try simp only [Act.put, List.setIfInBounds_toArray, List.set_cons_zero, List.set_cons_succ])
    have zc : m8.cell? ⟨g4, k * 3 + 2, none⟩ = some (.slice x.A x.n x.c) := by
      rw [hown.cell _ (show k * 3 + 2 < n4 * 3 by omega)]
      exact flat_get (R := vipT) L k 2 x hx (by decide)
    have zf := hown.free (k * 3 + 2)
    have zl : g4 < m8.heap.size := by omega
    refine e_last (by rfl) (by kernel_rfl) (by rfl) (fun KQ hKQ => ?_)
    go_simp
    obtain ⟨hr9, hg9⟩ := Rows.setCell hr hL2.out hx { x with A := A8, c := k8 } 2 (.slice A8 x.n k8) (by decide) rfl trivial
    replace hr9 : Rows vipT (m8.setCell ⟨g4, k * 3 + 2, none⟩ (.slice A8 x.n k8)) B4 B4 53 (.slice (some ⟨g4, 0, none⟩) n4 k4) (L.set k { x with A := A8, c := k8 }) := hr9
    replace hg9 : m8.grownBy (m8.setCell ⟨g4, k * 3 + 2, none⟩ (.slice A8 x.n k8)) (some g4) := hg9
    clear zc zf zl
    generalize m8.setCell ⟨g4, k * 3 + 2, none⟩ (.slice A8 x.n k8) = m9 at *
    have hz9 := hg9.size
    refine hKQ.out _ _ ?_
    clear hKQ KQ
    try simp only [Act.put]
    refine e_done (by kernel_rfl) ?_ _
    try refine NoPanic.normal ?_
    go_wp2_with fail
    refine ⟨⟨k + 1, _, by omega, by go_num, (List.length_set ..).trans hL2.out, hr9, (set_same_w L k x { x with A := A8, c := k8 } hx rfl).trans hw.out, fun y hy => ?_, fun y hy => ?_, h1.grown hg9 (by simp; omega), h2.grown hg9 (by simp; omega), hS3.grown hg9 fun b q => ⟨by omega, by simp; omega⟩, hS5.grown hg9 fun b q => ⟨by omega, by simp; omega⟩, below_own hB hg9 hB.size (by omega), by omega⟩, by simp [intOf]; omega⟩
    · rcases List.mem_or_eq_of_mem_set hy with hy | rfl
      · exact hbn y hy
      · exact hxn
    · have keepC : ∀ p : Addr, ((p.block < w.heap.size ∨ T ≤ p.block) ∧ p.block < m8.heap.size) → m9.cell? p = m8.cell? p := fun p hp => by
        unfold World.cell?
        rw [hg9.block p.block hp.2 (by simp; omega)]
      rcases List.mem_or_eq_of_mem_set hy with hy | rfl
      · exact vipK.more (vipK.keep (hok y hy) keepC) fun b q => ⟨q.1, by omega⟩
      · exact ⟨hokx.1, hokx.2.1, hc8, hm8, (hS8.keep fun p hp => keepC p ⟨.inr (by omega), hp.2⟩).more fun b q => ⟨.inr (by omega), by omega⟩⟩
  · have hi : (Tryz.prog.info? 29).map (·.size) = some (cfgC c2).size := by kernel_rfl
    have hkn : ¬ ((k : Int) < n4) := by omega
    go_wp2_with (first
      | (refine wpList_load_blk rfl h1 29 (.tmp 1) rfl rfl Tryz.underlying29 rfl hi ?_)
      | (refine wpList_store_blk rfl h2 29 (.tmp 2) (.tmp 34) rfl rfl rfl rfl hi (by simp [cfgC, Value.oneCell']) ?_; intro w9 h9 hg9))
    refine bodyPost_ret (results_c rfl _ rfl (load_blk h9 Tryz.underlying29 rfl hi)) rfl ?_
    have hz9 := hg9.size
    have hgg := hg2.out
    have hS4 : Seen vipT wr (fun b => B4 ≤ b ∧ b < wr.heap.size) A4 n4 L := by
      obtain ⟨A', k', e2, -, -, hs4⟩ := hr.seen (Nat.le_refl _)
      rw [hL2.out] at e2 hs4
      injection e2 with e2 _ _
      rw [e2]
      exact hs4
    have keepC : ∀ p : Addr, p.block ≠ g2 → p.block < wr.heap.size → w9.cell? p = wr.cell? p := fun p hp hl => by
      unfold World.cell?
      rw [hg9.block p.block hl (by simp; omega)]
    have o3 := (hS3.keep fun p hp => keepC p (by have a := hp.1; have b := hp.2; omega) (by have a := hp.1; have b := hp.2; omega)).more (S' := fun b => b < w9.heap.size) fun b q => by omega
    have o5 := (hS5.keep fun p hp => keepC p (by have a := hp.1; have b := hp.2; omega) (by have a := hp.1; have b := hp.2; omega)).more (S' := fun b => b < w9.heap.size) fun b q => by omega
    have o4 : Seen vipK w9 (fun b => b < w9.heap.size) A4 n4 L := ⟨hS4.1, fun x hx => vipK.more (vipK.keep (hok x hx) fun p hp => keepC p (by omega) hp.2) fun b q => by omega, fun h0 => by
      obtain ⟨b, off, e, q, hc⟩ := hS4.2.2 h0
      exact ⟨b, off, e, by omega, fun j a hj i hi => by rw [keepC ⟨b, _, none⟩ (by show b ≠ g2; omega) q.2]; exact hc j a hj i hi⟩⟩
    refine ⟨{ c2 with V := L }, rfl, ?_, ?_, ?_, below_own hB hg9 hB.size (by omega)⟩
    · rw [hc2.out]
      exact ⟨h.id_, h.own_, h.nums, h.damp, ⟨⟨hc3, hm3⟩, ⟨hc4, hm4⟩, ⟨hc5, hm5⟩⟩, o3, o4, o5⟩
    · rw [hc2.out]
      exact ⟨hsp, hsv, hss, hbn⟩
    · rw [hc2.out]
      unfold CfgV.w
      simp only [hw.out]
end Go.Proofs.YtecmhakapomepaaGreat
