/- open: Bytes. -/
import Derived.Test.YtlpplclhjkbjbaaOpA
namespace Go.Proofs.Ytlpplclhjkbjbaa
set_option linter.unusedVariables false
open Go.RowKit

def capL (r : CapV) : List UInt8 := [byOf r.t, byOf r.n] ++ r.v
def capsL (cs : List CapV) : List UInt8 := cs.flatMap capL
theorem capsL_take (cs : List CapV) (k : Nat) (r : CapV) (h : cs[k]? = some r) : capsL (cs.take (k + 1)) = capsL (cs.take k) ++ capL r := by
  unfold capsL
  rw [List.take_add_one, h]; simp
theorem capsL_len (cs : List CapV) (h : ∀ r ∈ cs, r.v.length = r.n) : (capsL cs).length = capSum cs := by
  unfold capsL capSum
  induction cs with
  | nil => rfl
  | cons c cs ih =>
    rw [List.flatMap_cons, List.length_append, List.map_cons, List.sum_cons, ih fun r hr => h r (List.mem_cons_of_mem _ hr)]
    have := h c (by simp)
    simp [capL, this]
set_option maxRecDepth 100000 in
set_option maxHeartbeats 4000000 in
theorem capBytes_any (w : World) (r : CapV) (h : capK.ok w (fun b => b < w.heap.size) r) (hn : r.n ≤ 1000000) :
    Calls Try.prog 87 #[.agg #[.int .i64 r.t, .slice r.A r.n r.c]] w fun e w' => ∃ v, e = .returned v ∧ OwnB w' w.heap.size v (r.n + 2) (capL r) ∧ Below w.heap.size w w' := by
  obtain ⟨t, A, n, c, l⟩ := r
  obtain ⟨hc, hc2, hb0⟩ := h
  have hP : Byt w w.heap.size A n l := hb0.byt fun _ h => h
  clear hb0
  show Calls _ _ #[.agg #[.int .i64 t, .slice A n c]] _ _
  simp only at hn
  have hB := (Below.refl w.heap.size w).alloc (Nat.le_refl _) (.cells #[.int .i64 t, .slice A n c] 60)
  have hq := Blk.new w 60 #[.int .i64 t, .slice A n c]
  have hI := hP.nx hB
  go_enter Try.func87, Try.ntmps87
  go_wp2_with fail
  generalize w.alloc (.cells #[.int .i64 t, .slice A n c] 60) = w1 at *
  have lt1 := hq.lt
  have f0 : w1.cell? ⟨w.heap.size, 0, none⟩ = some (.int .i64 t) := hq.cellv 0 rfl
  have f1 : w1.cell? ⟨w.heap.size, 1, none⟩ = some (.slice A n c) := hq.cellv 1 rfl
  -- region 1: 0 1 2C 3 4 5 6C 7 8 9M 10
  try refine wp_region_noPanic ?_
  have hs1r : Below w1.heap.size w1 w1.drew := (Below.refl _ _).drew
  refine wp_region_held_drew (S := fun w' => Below w1.heap.size w1 w') (by kernel_rfl) hs1r (fun _ => ?_)
  (refine held_takeA 0 (by rfl) ?_ (by kernel_rfl) (fun _ _ _ h => h) hs1r ?_ ?_; rotate_left; (focus (intro wq hSw; have hrd : ∀ b o, b < w1.heap.size → wq.cell? ⟨b, o, none⟩ = w1.cell? ⟨b, o, none⟩ := (fun b o h => hSw.cell (p := ⟨b, o, none⟩) h); go_simp; try with_reducible rfl; done)); try simp only [Act.put, List.setIfInBounds_toArray, List.set_cons_zero, List.set_cons_succ])
  (refine held_takeA 1 (by rfl) ?_ (by kernel_rfl) (fun _ _ _ h => h) hs1r ?_ ?_; rotate_left; (focus (intro wq hSw; have hrd : ∀ b o, b < w1.heap.size → wq.cell? ⟨b, o, none⟩ = w1.cell? ⟨b, o, none⟩ := (fun b o h => hSw.cell (p := ⟨b, o, none⟩) h); go_simp; try with_reducible rfl; done)); try simp only [Act.put, List.setIfInBounds_toArray, List.set_cons_zero, List.set_cons_succ])
  (refine held_takeA 3 (by rfl) ?_ (by kernel_rfl) (fun _ _ _ h => h) hs1r ?_ ?_; rotate_left; (focus (intro wq hSw; have hrd : ∀ b o, b < w1.heap.size → wq.cell? ⟨b, o, none⟩ = w1.cell? ⟨b, o, none⟩ := (fun b o h => hSw.cell (p := ⟨b, o, none⟩) h); go_simp; try with_reducible rfl; done)); try simp only [Act.put, List.setIfInBounds_toArray, List.set_cons_zero, List.set_cons_succ])
  (refine held_takeA 4 (by rfl) ?_ (by kernel_rfl) (fun _ _ _ h => h) hs1r ?_ ?_; rotate_left; (focus (intro wq hSw; have hrd : ∀ b o, b < w1.heap.size → wq.cell? ⟨b, o, none⟩ = w1.cell? ⟨b, o, none⟩ := (fun b o h => hSw.cell (p := ⟨b, o, none⟩) h); go_simp; try with_reducible rfl; done)); try simp only [Act.put, List.setIfInBounds_toArray, List.set_cons_zero, List.set_cons_succ])
  (refine held_takeA 5 (by rfl) ?_ (by kernel_rfl) (fun _ _ _ h => h) hs1r ?_ ?_; rotate_left; (focus (intro wq hSw; have hrd : ∀ b o, b < w1.heap.size → wq.cell? ⟨b, o, none⟩ = w1.cell? ⟨b, o, none⟩ := (fun b o h => hSw.cell (p := ⟨b, o, none⟩) h); go_simp; try with_reducible rfl; done)); try simp only [Act.put, List.setIfInBounds_toArray, List.set_cons_zero, List.set_cons_succ])
  (refine held_takeA 7 (by rfl) ?_ (by kernel_rfl) (fun _ _ _ h => h) hs1r ?_ ?_; rotate_left; (focus (intro wq hSw; have hrd : ∀ b o, b < w1.heap.size → wq.cell? ⟨b, o, none⟩ = w1.cell? ⟨b, o, none⟩ := (fun b o h => hSw.cell (p := ⟨b, o, none⟩) h); go_simp; try with_reducible rfl; done)); try simp only [Act.put, List.setIfInBounds_toArray, List.set_cons_zero, List.set_cons_succ])
  (refine held_takeA 8 (by rfl) ?_ (by kernel_rfl) (fun _ _ _ h => h) hs1r ?_ ?_; rotate_left; (focus (intro wq hSw; have hrd : ∀ b o, b < w1.heap.size → wq.cell? ⟨b, o, none⟩ = w1.cell? ⟨b, o, none⟩ := (fun b o h => hSw.cell (p := ⟨b, o, none⟩) h); go_simp; try with_reducible rfl; done)); try simp only [Act.put, List.setIfInBounds_toArray, List.set_cons_zero, List.set_cons_succ])
  refine held_callA 2 (by rfl) (by kernel_rfl) (by rfl) (fun KQ hKQ => ?_)
  go_simp
  refine (put8_any w1.drew none 0 0 [] 0 Byt.none_ (by omega) (by omega) t).mono ?_
  rintro e w2 ⟨v2, rfl, own2, hb⟩
  rw [be1_mod, List.nil_append, Nat.zero_add] at own2
  obtain ⟨A2, c2, rfl, _, by2, _⟩ := own2.any
  replace hI := hI.drew.nx hb
  clear own2
  refine hKQ.out _ _ (hs1r.trans hb) (held_mono (S' := fun w' => Below w2.heap.size w2 w') (fun w' h => (hs1r.trans hb).trans (h.mono (hs1r.trans hb).size)) _ _ _ _ ?_)
  clear hKQ KQ
  replace hB := hB.trans ((hs1r.trans hb).mono hB.size)
  have hs2r : Below w2.heap.size w2 w2 := Below.refl _ _
  try simp only [Act.put, List.setIfInBounds_toArray, List.set_cons_zero, List.set_cons_succ]
  clear hb
  refine held_callA 6 (by rfl) (by kernel_rfl) (by rfl) (fun KQ hKQ => ?_)
  go_simp
  refine (put8_any w2 A2 1 c2 _ _ by2 (Nat.le_refl _) (by omega) (n : Int)).mono ?_
  rintro e w3 ⟨v3, rfl, own3, hb⟩
  rw [be1_mod] at own3
  replace hI := hI.nx hb
  have hz3 : w2.heap.size ≤ w3.heap.size := hb.size
  have hz2 := hB.size
  have hs3r := hb
  refine hKQ.out _ _ hs3r ?_
  clear hKQ KQ
  try simp only [Act.put, List.setIfInBounds_toArray, List.set_cons_zero, List.set_cons_succ]
  obtain ⟨A3, c3, rfl, _, _, _⟩ := own3.any
  refine held_callA 9 (by rfl) (by kernel_rfl) (by rfl) (fun KQ hKQ => ?_)
  refine wp_app _ (.tmp 9) (.tmp 11) (by rfl) w2.heap.size _ 2 _ (by rfl) own3 _ A n c _ (by rfl) hI (by omega) hz3 ?_
  intro v4 w4 own4 hg4 hd4
  clear hd4
  have hb4 := hb.trans (own3.below_app hg4 hz3)
  have hs4r := hb4
  refine hKQ.out _ _ hs4r ?_
  clear hKQ KQ
  try simp only [Act.put, List.setIfInBounds_toArray, List.set_cons_zero, List.set_cons_succ]
  (refine held_takeA 10 (by rfl) ?_ (by kernel_rfl) (fun _ _ _ h => h) hs4r ?_ ?_; rotate_left; (focus (intro wq hSw; have hrd : ∀ b o, b < w2.heap.size → wq.cell? ⟨b, o, none⟩ = w2.cell? ⟨b, o, none⟩ := (fun b o h => hSw.cell (p := ⟨b, o, none⟩) h); go_simp; try with_reducible rfl; done)); try simp only [Act.put, List.setIfInBounds_toArray, List.set_cons_zero, List.set_cons_succ])
  refine wpAnyH_done (by kernel_rfl) ?_ _
  try refine NoPanic.normal ?_
  go_wp2_with fail
  go_ret
  refine ⟨v4, rfl, ?_, hB.trans (hb4.mono hz2)⟩
  rw [Nat.add_comm n 2]
  exact own4.less hz2
theorem capL_ok {w : World} {S : Nat → Prop} {r : CapV} (h : capK.ok w S r) : (capL r).length = r.n + 2 := by
  have : r.v.length = r.n := h.2.2.1
  simp [capL, this]
set_option maxHeartbeats 2000000 in
theorem each_any (w : World) (A : Option Addr) (n c : Nat) (cs : List CapV) (h : Seen capK w (fun b => b < w.heap.size) A n cs) (hn : n ≤ 100) (hok : cs.all capOk = true) :
    Calls Try.prog 86 #[.slice A n c, .func (.func 87) #[] #[]] w fun e w' => ∃ v, e = .returned v ∧ OwnB w' w.heap.size v (capSum cs) (capsL cs) ∧ Below w.heap.size w w' := by
  have hnil := OwnB.nil w w.heap.size
  have hl := Lib.hid h.1
  go_enter Try.func86, Try.ntmps86
  go_wp2_with fail
  go_loopw [5, 7, 10] (fun v _ i wr => ∃ k : Nat, k ≤ n ∧ i = .int .i64 (k : Int) ∧ OwnB wr w.heap.size v (capSum (cs.take k)) (capsL (cs.take k)) ∧ Below w.heap.size w wr) (fun _ _ i _ => n - (intOf i).toNat)
  case atStart => exact ⟨0, Nat.zero_le _, rfl, hnil, Below.refl _ _⟩
  case round =>
  obtain ⟨k, hk, rfl, hown, hB⟩ := hrel
  have hzB := hB.size
  by_cases hlt : k < n
  · have hS := (h.below hB fun _ hb => hb).more (S' := fun b => b < wr.heap.size) fun b hb => Nat.lt_of_lt_of_le hb hzB
    obtain ⟨b, off, r, rfl, hb, hr, hrok, c0, c1⟩ := cap_cells hS hlt
    have hbx := (Below.refl wr.heap.size wr).alloc (Nat.le_refl _) (.cells #[.int .i64 r.t, .slice r.A r.n r.c] 60)
    have hok2 := capK.more (capK.keep (w' := wr.alloc (.cells #[.int .i64 r.t, .slice r.A r.n r.c] 60)) hrok fun p hp => hbx.cell hp) (S' := fun b => b < (wr.alloc (.cells #[.int .i64 r.t, .slice r.A r.n r.c] 60)).heap.size) fun b hb => Nat.lt_of_lt_of_le hb hbx.size
    have hki : (k : Int) < n := by omega
    have hro := List.all_eq_true.1 hok r (List.mem_of_getElem? hr)
    have hn100 : r.n ≤ 100 := by unfold capOk at hro; simp at hro; omega
    have hst := capSum_take cs k r hr
    have hct := capsL_take cs k r hr
    have hsl := capSum_le cs k
    have hsg := capSum_good cs hok
    have hll := hl.out
    rw [hll] at hsg
    replace hst := Lib.hid hst
    replace hct := Lib.hid hct
    clear hll
    go_wp2_with fail
    refine (capBytes_any _ r hok2 (by omega)).mono ?_
    rintro e w2 ⟨v2, rfl, own2, hb2⟩
    obtain ⟨A2, c2', rfl, _, by2, _⟩ := own2.any
    replace hbx := hbx.trans (hb2.mono hbx.size)
    have hown2 := hown.below hbx
    have hzx := hbx.size
    go_wp2_with (at_builtin; refine wpList_app _ rfl (.tmp 14) (.tmp 17) rfl w.heap.size _ _ _ rfl hown2 _ _ _ _ _ rfl by2 (by omega) (by omega) ?_; intro v3 w3 own3 hg3 hd3; clear hd3; have hb3 := hown2.below_app hg3 (by omega))
    refine ⟨⟨k + 1, by omega, by go_num, ?_, hB.trans ((hbx.mono hzB).trans hb3)⟩, by simp [intOf]; omega⟩
    rw [hst.out, hct.out]
    exact own3
  · obtain rfl : k = n := by omega
    go_wp2_with fail
    go_ret
    rw [List.take_of_length_le (by have := hl.out; omega)] at hown
    exact ⟨_, rfl, hown, hB⟩
def headO (a h id : Int) : List UInt8 := [4] ++ be a 2 ++ be h 2 ++ be id 4
def bytesO (a h id : Int) (cs : List CapV) : List UInt8 := if goodO a h id cs = true then headO a h id ++ (if cs.length = 0 then [0] else [byOf (capSum cs + 2), 2, byOf (capSum cs)] ++ capsL cs) else []
theorem headO_len (a h id : Int) : (headO a h id).length = 9 := by simp [headO, be_len]
theorem bytesO_len (a h id : Int) (cs : List CapV) (hv : ∀ r ∈ cs, r.v.length = r.n) : (bytesO a h id cs).length ≤ 212 := by
  unfold bytesO
  split
  · rename_i hg
    have h2 : capSum cs ≤ 200 := by unfold goodO at hg; simp at hg; omega
    rw [List.length_append, headO_len]
    split
    · simp
    · rw [List.length_append, capsL_len cs hv]; simp; omega
  · simp
set_option maxRecDepth 100000 in
set_option maxHeartbeats 8000000 in
theorem openBytes_any (w : World) (a h id : Int) (A : Option Addr) (n c : Nat) (cs : List CapV) (hS : Seen capK w (fun b => b < w.heap.size) A n cs) (hn : n ≤ 100) (i0 : 0 ≤ id) (i1 : id ≤ 4294967295) :
    Calls Try.prog 34 #[.agg #[.int .i64 a, .int .i64 h, .int .u32 id, .slice A n c]] w fun e w' => ∃ v, e = .returned v ∧ OwnB w' w.heap.size v (bytesO a h id cs).length (bytesO a h id cs) ∧ Below w.heap.size w w' := by
  have hl := hS.1
  have hB := (Below.refl w.heap.size w).alloc (Nat.le_refl _) (.cells #[.int .i64 a, .int .i64 h, .int .u32 id, .slice A n c] 57)
  have hq := Blk.new w 57 #[.int .i64 a, .int .i64 h, .int .u32 id, .slice A n c]
  have snx : ∀ (u u' : World), Seen capK u (fun b => b < u.heap.size) A n cs → Below u.heap.size u u' → Seen capK u' (fun b => b < u'.heap.size) A n cs := fun u u' h hb => (h.below hb fun _ h => h).more fun b h => Nat.lt_of_lt_of_le h hb.size
  replace hS := snx _ _ hS hB
  go_enter Try.func34, Try.ntmps34
  go_wp2_with fail
  generalize w.alloc (.cells #[.int .i64 a, .int .i64 h, .int .u32 id, .slice A n c] 57) = w1 at *
  refine (openGood_any w1 a h id A n c cs hS hn).mono ?_
  rintro e w2 ⟨rfl, hb⟩
  replace hS := snx _ _ hS hb
  replace hq := hq.below hb hq.lt
  replace hB := hB.trans (hb.mono hB.size)
  clear hb
  cases hg : goodO a h id cs
  · have e : [] = bytesO a h id cs := by unfold bytesO; rw [hg]; rfl
    replace e := Lib.hid e
    go_wp2_with fail
    go_ret
    exact ⟨_, rfl, by rw [← e.out]; exact OwnB.nil _ _, hB⟩
  have e : bytesO a h id cs = headO a h id ++ (if cs.length = 0 then [0] else [byOf (capSum cs + 2), 2, byOf (capSum cs)] ++ capsL cs) := if_pos hg
  have hat := Lib.hid e
  clear e
  have hgp : (1 ≤ a ∧ a ≤ 65535) ∧ (0 ≤ h ∧ h ≤ 65535) ∧ cs.all capOk = true ∧ capSum cs ≤ 200 := by have := hg; unfold goodO holdB at this; simp only [Bool.and_eq_true, Bool.or_eq_true, decide_eq_true_eq, beq_iff_eq, bne_iff_ne] at this; exact ⟨this.1.1.1, by omega, this.2⟩
  obtain ⟨ha, hh, hok, h200⟩ := hgp
  replace hok := Lib.hid hok
  have f0 : w2.cell? ⟨w.heap.size, 0, none⟩ = some (.int .i64 a) := hq.cellv 0 rfl
  have f1 : w2.cell? ⟨w.heap.size, 1, none⟩ = some (.int .i64 h) := hq.cellv 1 rfl
  have f2 : w2.cell? ⟨w.heap.size, 2, none⟩ = some (.int .u32 id) := hq.cellv 2 rfl
  have lt1 := hq.lt
  replace hl := Lib.hid hl
  replace hg := Lib.hid hg
  go_wp2_with fail
  -- region 3: 0C 1 2 3C 4 5 6C 7 8 9C 10
  try refine wp_region_noPanic ?_
  have hs5r : Below w2.heap.size w2 w2.drew := (Below.refl _ _).drew
  refine wp_region_held_drew (S := fun w' => Below w2.heap.size w2 w') (by kernel_rfl) hs5r (fun _ => ?_)
  (refine held_takeA 1 (by rfl) ?_ (by kernel_rfl) (fun _ _ _ h => h) hs5r ?_ ?_; rotate_left; (focus (intro wq hSw; have hrd : ∀ b o, b < w2.heap.size → wq.cell? ⟨b, o, none⟩ = w2.cell? ⟨b, o, none⟩ := (fun b o h => hSw.cell (p := ⟨b, o, none⟩) h); go_simp; try with_reducible rfl; done)); try simp only [Act.put, List.setIfInBounds_toArray, List.set_cons_zero, List.set_cons_succ])
  (refine held_takeA 2 (by rfl) ?_ (by kernel_rfl) (fun _ _ _ h => h) hs5r ?_ ?_; rotate_left; (focus (intro wq hSw; have hrd : ∀ b o, b < w2.heap.size → wq.cell? ⟨b, o, none⟩ = w2.cell? ⟨b, o, none⟩ := (fun b o h => hSw.cell (p := ⟨b, o, none⟩) h); go_simp; try with_reducible rfl; done)); try simp only [Act.put, List.setIfInBounds_toArray, List.set_cons_zero, List.set_cons_succ])
  (refine held_takeA 4 (by rfl) ?_ (by kernel_rfl) (fun _ _ _ h => h) hs5r ?_ ?_; rotate_left; (focus (intro wq hSw; have hrd : ∀ b o, b < w2.heap.size → wq.cell? ⟨b, o, none⟩ = w2.cell? ⟨b, o, none⟩ := (fun b o h => hSw.cell (p := ⟨b, o, none⟩) h); go_simp; try with_reducible rfl; done)); try simp only [Act.put, List.setIfInBounds_toArray, List.set_cons_zero, List.set_cons_succ])
  (refine held_takeA 5 (by rfl) ?_ (by kernel_rfl) (fun _ _ _ h => h) hs5r ?_ ?_; rotate_left; (focus (intro wq hSw; have hrd : ∀ b o, b < w2.heap.size → wq.cell? ⟨b, o, none⟩ = w2.cell? ⟨b, o, none⟩ := (fun b o h => hSw.cell (p := ⟨b, o, none⟩) h); go_simp; try with_reducible rfl; done)); try simp only [Act.put, List.setIfInBounds_toArray, List.set_cons_zero, List.set_cons_succ])
  (refine held_takeA 7 (by rfl) ?_ (by kernel_rfl) (fun _ _ _ h => h) hs5r ?_ ?_; rotate_left; (focus (intro wq hSw; have hrd : ∀ b o, b < w2.heap.size → wq.cell? ⟨b, o, none⟩ = w2.cell? ⟨b, o, none⟩ := (fun b o h => hSw.cell (p := ⟨b, o, none⟩) h); go_simp; try with_reducible rfl; done)); try simp only [Act.put, List.setIfInBounds_toArray, List.set_cons_zero, List.set_cons_succ])
  (refine held_takeA 8 (by rfl) ?_ (by kernel_rfl) (fun _ _ _ h => h) hs5r ?_ ?_; rotate_left; (focus (intro wq hSw; have hrd : ∀ b o, b < w2.heap.size → wq.cell? ⟨b, o, none⟩ = w2.cell? ⟨b, o, none⟩ := (fun b o h => hSw.cell (p := ⟨b, o, none⟩) h); go_simp; try with_reducible rfl; done)); try simp only [Act.put, List.setIfInBounds_toArray, List.set_cons_zero, List.set_cons_succ])
  refine held_callA 0 (by rfl) (by kernel_rfl) (by rfl) (fun KQ hKQ => ?_)
  go_simp
  refine (put8_any w2.drew none 0 0 [] 0 Byt.none_ (by omega) (by omega) 4).mono ?_
  rintro e w3 ⟨v3, rfl, own3, hb⟩
  rw [be1_mod, List.nil_append, Nat.zero_add] at own3
  obtain ⟨A3, c3, rfl, _, by3, _⟩ := own3.any
  have hbf := (Below.refl w2.heap.size w2).drew.trans hb
  replace hS := snx _ _ hS hbf
  replace hq := hq.below hbf hq.lt
  clear own3 f0 f1 f2 hbf
  refine hKQ.out _ _ (hs5r.trans hb) (held_mono (S' := fun w' => Below w3.heap.size w3 w') (fun w' h => (hs5r.trans hb).trans (h.mono (hs5r.trans hb).size)) _ _ _ _ ?_)
  clear hKQ KQ
  replace hB := hB.trans ((hs5r.trans hb).mono hB.size)
  have hs6r : Below w3.heap.size w3 w3 := Below.refl _ _
  try simp only [Act.put, List.setIfInBounds_toArray, List.set_cons_zero, List.set_cons_succ]
  clear hb
  refine held_callA 3 (by rfl) (by kernel_rfl) (by rfl) (fun KQ hKQ => ?_)
  go_simp
  refine (put16_any w3 A3 1 c3 _ _ by3 (Nat.le_refl _) (by omega) a).mono ?_
  rintro e w4 ⟨v, rfl, own4, hb⟩
  rw [be2_mod _ (by omega) (by omega)] at own4
  obtain ⟨A4, c4, rfl, _, by4, _⟩ := own4.any
  replace hS := snx _ _ hS hb
  replace hq := hq.below hb hq.lt
  clear own4 by3
  refine hKQ.out _ _ (hs6r.trans hb) (held_mono (S' := fun w' => Below w4.heap.size w4 w') (fun w' h => (hs6r.trans hb).trans (h.mono (hs6r.trans hb).size)) _ _ _ _ ?_)
  clear hKQ KQ
  replace hB := hB.trans ((hs6r.trans hb).mono hB.size)
  have hs7r : Below w4.heap.size w4 w4 := Below.refl _ _
  try simp only [Act.put, List.setIfInBounds_toArray, List.set_cons_zero, List.set_cons_succ]
  clear hb
  refine held_callA 6 (by rfl) (by kernel_rfl) (by rfl) (fun KQ hKQ => ?_)
  go_simp
  refine (put16_any w4 A4 (1 + 2) c4 _ _ by4 (Nat.le_refl _) (by omega) h).mono ?_
  rintro e w5 ⟨v, rfl, own5, hb⟩
  rw [be2_mod _ (by omega) (by omega)] at own5
  obtain ⟨A5, c5, rfl, _, by5, _⟩ := own5.any
  replace hS := snx _ _ hS hb
  replace hq := hq.below hb hq.lt
  clear own5 by4
  refine hKQ.out _ _ (hs7r.trans hb) (held_mono (S' := fun w' => Below w5.heap.size w5 w') (fun w' h => (hs7r.trans hb).trans (h.mono (hs7r.trans hb).size)) _ _ _ _ ?_)
  clear hKQ KQ
  replace hB := hB.trans ((hs7r.trans hb).mono hB.size)
  have hs8r : Below w5.heap.size w5 w5 := Below.refl _ _
  try simp only [Act.put, List.setIfInBounds_toArray, List.set_cons_zero, List.set_cons_succ]
  clear hb
  refine held_callA 9 (by rfl) (by kernel_rfl) (by rfl) (fun KQ hKQ => ?_)
  go_simp
  refine (put32_any w5 A5 (1 + 2 + 2) c5 _ _ by5 (Nat.le_refl _) (by omega) id i0 i1).mono ?_
  rintro e w6 ⟨v, rfl, own6, hb⟩
  obtain ⟨A6, c6, rfl, _, by6, _⟩ := own6.any
  replace hS := snx _ _ hS hb
  replace hq := hq.below hb hq.lt
  clear own6 by5
  refine hKQ.out _ _ (hs8r.trans hb) (held_mono (S' := fun w' => Below w6.heap.size w6 w') (fun w' h => (hs8r.trans hb).trans (h.mono (hs8r.trans hb).size)) _ _ _ _ ?_)
  clear hKQ KQ
  replace hB := hB.trans ((hs8r.trans hb).mono hB.size)
  have hs9r : Below w6.heap.size w6 w6 := Below.refl _ _
  try simp only [Act.put, List.setIfInBounds_toArray, List.set_cons_zero, List.set_cons_succ]
  (refine held_takeA 10 (by rfl) ?_ (by kernel_rfl) (fun _ _ _ h => h) hs9r ?_ ?_; rotate_left; (focus (intro wq hSw; have hrd : ∀ b o, b < w6.heap.size → wq.cell? ⟨b, o, none⟩ = w6.cell? ⟨b, o, none⟩ := (fun b o h => hSw.cell (p := ⟨b, o, none⟩) h); go_simp; try with_reducible rfl; done)); try simp only [Act.put, List.setIfInBounds_toArray, List.set_cons_zero, List.set_cons_succ])
  clear hb
  refine wpAnyH_done (by kernel_rfl) ?_ _
  try refine NoPanic.normal ?_
  have hh6 : [byOf 4] ++ be a 2 ++ be h 2 ++ be id 4 = headO a h id := rfl
  rw [hh6] at by6
  clear hh6
  have f3 : w6.cell? ⟨w.heap.size, 3, none⟩ = some (.slice A n c) := hq.cellv 3 rfl
  have lt6 := hq.lt
  have hz6 := hB.size
  by_cases h0 : n = 0
  · subst h0
    go_wp2_with fail
    refine (put8_any w6 A6 (1 + 2 + 2 + 4) c6 _ _ by6 (Nat.le_refl _) (by omega) 0).mono ?_
    rintro e w7 ⟨v7, rfl, own7, hb⟩
    rw [be1_mod] at own7
    go_wp2_with fail
    go_ret
    refine ⟨v7, rfl, ?_, hB.trans (hb.mono hz6)⟩
    rw [hat.out, if_pos hl.out]
    have hln := own7.len
    rw [show [byOf 0] = [0] from by decide] at own7 hln
    rw [← hln] at own7
    exact own7.less hz6
  have hnz : ((n : Int) == 0) = false := by rw [beq_eq_false_iff_ne]; omega
  go_wp2_with fail
  refine (each_any w6 A n c cs hS hn hok.out).mono ?_
  rintro e w7 ⟨v7, rfl, own7, hb⟩
  obtain ⟨A7, c7, rfl, hc7, by7, _⟩ := own7.any
  replace by6 := by6.nx hb
  replace hB := hB.trans (hb.mono hB.size)
  clear own7 hb
  have hw2 : IntKind.i64.wrap ((capSum cs : Nat) + (2 : Int)) = (capSum cs : Nat) + 2 := IntWalk.i64_in _ (by omega)
  go_wp2_with fail
  refine (put8_any w7 A6 (1 + 2 + 2 + 4) c6 _ _ by6 (Nat.le_refl _) (by omega) ((capSum cs : Nat) + 2)).mono ?_
  rintro e w8 ⟨v8, rfl, own8, hb⟩
  rw [be1_mod] at own8
  obtain ⟨A8, c8, rfl, _, by8, _⟩ := own8.any
  replace by7 := by7.nx hb
  replace hB := hB.trans (hb.mono hB.size)
  clear own8 hb by6
  go_wp2_with fail
  refine (put8_any w8 A8 _ c8 _ _ by8 (Nat.le_refl _) (by omega) 2).mono ?_
  rintro e w9 ⟨v9, rfl, own9, hb⟩
  rw [be1_mod] at own9
  obtain ⟨A9, c9, rfl, _, by9, _⟩ := own9.any
  replace by7 := by7.nx hb
  replace hB := hB.trans (hb.mono hB.size)
  clear own9 hb by8
  go_wp2_with fail
  refine (put8_any w9 A9 _ c9 _ _ by9 (Nat.le_refl _) (by omega) (capSum cs : Nat)).mono ?_
  rintro e w10 ⟨v10, rfl, own10, hb⟩
  rw [be1_mod] at own10
  replace by7 := by7.nx hb
  have hz9 := hB.size
  replace hB := hB.trans (hb.mono hB.size)
  have hz10 : w9.heap.size ≤ w10.heap.size := hb.size
  obtain ⟨A10, c10, rfl, _, _, _⟩ := own10.any
  clear hb by9
  go_wp2_with (at_builtin; refine wpList_app _ rfl (.tmp 36) (.tmp 37) rfl w9.heap.size _ _ _ rfl own10 _ A7 (capSum cs) c7 _ rfl by7 (by omega) hz10 ?_; intro v11 w11 own11 hg11 hd11; clear hd11)
  go_ret
  refine ⟨v11, rfl, ?_, hB.trans ((own10.below_app hg11 hz10).mono hz9)⟩
  rw [hat.out, if_neg (by rw [hl.out]; exact h0)]
  have hln := own11.len
  have e2 : byOf 2 = 2 := by decide
  rw [e2] at own11 hln
  simp only [List.append_assoc, List.cons_append, List.nil_append] at own11 hln ⊢
  rw [← hln] at own11
  exact own11.less hz9
end Go.Proofs.Ytlpplclhjkbjbaa
