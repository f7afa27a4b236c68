/- ports: concat, isPort, Good, both. -/
import Derived.Test.YthbfnppgaaeilaaDoorIpU
import Derived.LoopTactic
namespace Go.Proofs.YthbfnppgaaeilaaDoor
set_option linter.unusedVariables false
open Go.RowKit

/-- the slices in a row: their bytes. -/
def Parts (w : World) (B : Nat) (X : Option Addr) (ps : List (List UInt8)) : Prop :=
  0 < ps.length → ∃ b off, X = some ⟨b, off, none⟩ ∧ b < B ∧ ∀ j, j < ps.length → ∃ A n c, w.cell? ⟨b, off + j, none⟩ = some (.slice A n c) ∧ n ≤ c ∧ Byt w B A n (ps[j]?.getD [])
theorem Parts.below {w w' : World} {B : Nat} {X : Option Addr} {ps : List (List UInt8)} (h : Parts w B X ps) (hb : Below B w w') : Parts w' B X ps := fun h0 => by
  obtain ⟨b, off, e, hB, hc⟩ := h h0
  refine ⟨b, off, e, hB, fun j hj => ?_⟩
  obtain ⟨A, n, c, h1, h2, h3⟩ := hc j hj
  exact ⟨A, n, c, (hb.cell (p := ⟨b, off + j, none⟩) hB).trans h1, h2, h3.below hb⟩
theorem Parts.more {w : World} {B B' : Nat} {X : Option Addr} {ps : List (List UInt8)} (h : Parts w B X ps) (hB : B ≤ B') : Parts w B' X ps := fun h0 => by
  obtain ⟨b, off, e, hb, hc⟩ := h h0
  refine ⟨b, off, e, by omega, fun j hj => ?_⟩
  obtain ⟨A, n, c, h1, h2, h3⟩ := hc j hj
  exact ⟨A, n, c, h1, h2, h3.more hB⟩
theorem flat_take_succ (ps : List (List UInt8)) (k : Nat) (h : k < ps.length) : (ps.take (k + 1)).flatten = (ps.take k).flatten ++ (ps[k]?.getD []) := by
  rw [List.take_add_one, List.getElem?_eq_getElem h]; simp only [Option.toList_some, List.flatten_append, List.flatten_cons, List.flatten_nil, List.append_nil, Option.getD_some]
theorem flat_take_len (ps : List (List UInt8)) (k : Nat) : (ps.take k).flatten.length ≤ ps.flatten.length := by
  have : ps.flatten = (ps.take k).flatten ++ (ps.drop k).flatten := by rw [← List.flatten_append, List.take_append_drop]
  rw [this, List.length_append]; omega
set_option maxHeartbeats 2000000 in
theorem concat_any (w : World) (X : Option Addr) (n c : Nat) (ps : List (List UInt8)) (h : Parts w w.heap.size X ps) (hn : ps.length = n) (hn2 : n ≤ 1000) (hl : ps.flatten.length ≤ 100000000) :
    Calls Tryd.prog 35 #[.slice X n c] w fun e w' => ∃ v, e = .returned v ∧ OwnB w' w.heap.size v ps.flatten.length ps.flatten ∧ Below w.heap.size w w' := by
  have hnil := OwnB.nil w w.heap.size
  have hn' := Lib.hid hn
  have hl' := Lib.hid hl
  clear hn hl
  go_enter Tryd.func35, Tryd.ntmps35
  go_wp2_with fail
  go_loopw [3, 5, 8] (fun v _ i wr => ∃ k : Nat, k ≤ n ∧ i = .int .i64 (k : Int) ∧ OwnB wr w.heap.size v (ps.take k).flatten.length (ps.take k).flatten ∧ Below w.heap.size w wr) (fun _ _ i _ => n - (intOf i).toNat)
  case atStart => exact ⟨0, Nat.zero_le _, rfl, hnil, Below.refl _ _⟩
  case round =>
  obtain ⟨k, hk, rfl, hown, hB⟩ := hrel
  have hzB := hB.size
  by_cases hlt : k < n
  · obtain ⟨b, off, rfl, hb, hc⟩ := h (by have := hn'.out; omega)
    obtain ⟨A, m, cm, h1, h2, h3⟩ := hc k (by have := hn'.out; omega)
    have hcl := (hB.cell (p := ⟨b, off + k, none⟩) hb).trans h1
    have hby := (h3.below hB).more hzB
    have hfl := flat_take_succ ps k (by have := hn'.out; omega)
    have hfl2 := flat_take_len ps (k + 1)
    have hm := h3.1
    have hlim : (ps.take k).flatten.length + m ≤ 100000000 := by
      have := hl'.out
      rw [hfl, List.length_append, hm] at hfl2; omega
    have hki : (k : Int) < n := by omega
    replace hfl := Lib.hid hfl
    replace hm := Lib.hid hm
    clear hfl2
    go_wp2_with (at_builtin; refine wpList_app _ rfl (.tmp 12) (.tmp 13) rfl w.heap.size _ _ _ rfl hown _ _ m cm _ rfl hby (by omega) hzB ?_; intro v2 w2 hown2 hg2 hd2; clear hd2; have hb2 := hown.below_app hg2 hzB; clear hg2)
    refine ⟨⟨k + 1, by omega, by go_num, ?_, hB.trans hb2⟩, by simp [intOf]; omega⟩
    rw [hfl.out, List.length_append, hm.out]
    exact hown2
  · obtain rfl : k = n := by omega
    go_wp2_with fail
    go_ret
    rw [List.take_of_length_le (by have := hn'.out; omega)] at hown
    exact ⟨_, rfl, hown, hB⟩
def portB (x : Int) : Bool := decide (0 ≤ x) && decide (x ≤ 65535)
set_option maxHeartbeats 400000 in
theorem isPort_any (x : Int) (w : World) : Calls Tryd.prog 43 #[.int .i64 x] w fun e w' => e = .returned (.bool (portB x)) ∧ w = w' := by
  go_enter Tryd.func43, Tryd.ntmps43
  go_wp2_with fail
  all_goals go_ret
  all_goals (refine ⟨ret_bool ?_, rfl⟩; simp only [portB]; simp; try omega)
def flowV (p s d sp dp : Int) : Array Value := #[.int .i64 p, .int .u32 s, .int .u32 d, .int .i64 sp, .int .i64 dp]
def goodF (p sp dp : Int) : Bool := (p == 6 || p == 17) && portB sp && portB dp
set_option maxHeartbeats 1000000 in
theorem portsGood_any (p s d sp dp : Int) (w : World) : Calls Tryd.prog 18 #[.agg #[.int .i64 p, .int .u32 s, .int .u32 d, .int .i64 sp, .int .i64 dp]] w fun e w' => e = .returned (.bool (goodF p sp dp)) ∧ Below w.heap.size w w' := by
  have hB := (Below.refl w.heap.size w).alloc (Nat.le_refl _) (.cells (flowV p s d sp dp) 42)
  unfold flowV at hB
  by_cases h6 : p = 6
  · subst h6
    go_enter Tryd.func18, Tryd.ntmps18
    cases e1 : portB sp <;> cases e2 : portB dp
    all_goals go_wp2_with (go_at_call 43; refine (isPort_any _ _).mono ?_; rintro e w' ⟨rfl, rfl⟩; simp only [e1, e2])
    all_goals go_ret
    all_goals exact ⟨ret_bool (by simp [goodF, e1, e2]), hB⟩
  · have b6 : (p == 6) = false := by simpa using h6
    by_cases h17 : p = 17
    · subst h17
      go_enter Tryd.func18, Tryd.ntmps18
      cases e1 : portB sp <;> cases e2 : portB dp
      all_goals go_wp2_with (go_at_call 43; refine (isPort_any _ _).mono ?_; rintro e w' ⟨rfl, rfl⟩; simp only [e1, e2])
      all_goals go_ret
      all_goals exact ⟨ret_bool (by simp [goodF, e1, e2]), hB⟩
    · have b17 : (p == 17) = false := by simpa using h17
      go_enter Tryd.func18, Tryd.ntmps18
      go_wp2_with fail
      go_ret
      exact ⟨ret_bool (by simp [goodF, b6, b17]), hB⟩
/-- a flow's ports in bytes. -/
def bothL (sp dp : Int) : List UInt8 := be (sp % 18446744073709551616) 2 ++ be (dp % 18446744073709551616) 2
set_option maxRecDepth 100000 in
set_option maxHeartbeats 1000000 in
theorem both_any (p s d sp dp : Int) (w : World) : Calls Tryd.prog 37 #[.agg #[.int .i64 p, .int .u32 s, .int .u32 d, .int .i64 sp, .int .i64 dp]] w fun e w' => ∃ v, e = .returned v ∧ OwnB w' w.heap.size v 4 (bothL sp dp) ∧ Below w.heap.size w w' := by
  have hB := (Below.refl w.heap.size w).alloc (Nat.le_refl _) (.cells (flowV p s d sp dp) 42)
  have hq := Blk.new w 42 (flowV p s d sp dp)
  unfold flowV at hB hq
  go_enter Tryd.func37, Tryd.ntmps37
  go_wp2_with fail
  generalize w.alloc (.cells _ 42) = w1 at *
  have e3 := hq.cellv 3 (v := .int .i64 sp) rfl
  have e4 := hq.cellv 4 (v := .int .i64 dp) rfl
  have lt1 := hq.lt
  have hz := hB.size
  -- region 1: 0 1 2C 3 4 5C 6
  try refine wp_region_noPanic ?_
  have hs1r : Below w1.heap.size w1 w1.drew := (Below.refl _ _).drew
  refine wp_region_held_drew (S := fun w' => Below w1.heap.size w1 w') (by kernel_rfl) hs1r (fun _ => ?_)
  (refine held_takeA 0 (by rfl) ?_ (by kernel_rfl) (fun _ _ _ h => h) hs1r ?_ ?_; rotate_left; (focus (intro wq hSw; have hrd : ∀ b o, b < w1.heap.size → wq.cell? ⟨b, o, none⟩ = w1.cell? ⟨b, o, none⟩ := (fun b o h => hSw.cell (p := ⟨b, o, none⟩) h); go_simp; try with_reducible rfl; done)); try simp only [Act.put, List.setIfInBounds_toArray, List.set_cons_zero, List.set_cons_succ])
  (refine held_takeA 1 (by rfl) ?_ (by kernel_rfl) (fun _ _ _ h => h) hs1r ?_ ?_; rotate_left; (focus (intro wq hSw; have hrd : ∀ b o, b < w1.heap.size → wq.cell? ⟨b, o, none⟩ = w1.cell? ⟨b, o, none⟩ := (fun b o h => hSw.cell (p := ⟨b, o, none⟩) h); go_simp; try with_reducible rfl; done)); try simp only [Act.put, List.setIfInBounds_toArray, List.set_cons_zero, List.set_cons_succ])
  (refine held_takeA 3 (by rfl) ?_ (by kernel_rfl) (fun _ _ _ h => h) hs1r ?_ ?_; rotate_left; (focus (intro wq hSw; have hrd : ∀ b o, b < w1.heap.size → wq.cell? ⟨b, o, none⟩ = w1.cell? ⟨b, o, none⟩ := (fun b o h => hSw.cell (p := ⟨b, o, none⟩) h); go_simp; try with_reducible rfl; done)); try simp only [Act.put, List.setIfInBounds_toArray, List.set_cons_zero, List.set_cons_succ])
  (refine held_takeA 4 (by rfl) ?_ (by kernel_rfl) (fun _ _ _ h => h) hs1r ?_ ?_; rotate_left; (focus (intro wq hSw; have hrd : ∀ b o, b < w1.heap.size → wq.cell? ⟨b, o, none⟩ = w1.cell? ⟨b, o, none⟩ := (fun b o h => hSw.cell (p := ⟨b, o, none⟩) h); go_simp; try with_reducible rfl; done)); try simp only [Act.put, List.setIfInBounds_toArray, List.set_cons_zero, List.set_cons_succ])
  refine held_callA 2 (by rfl) (by kernel_rfl) (by rfl) (fun KQ hKQ => ?_)
  go_simp
  refine (put16_any w1.drew none 0 0 [] 0 Byt.none_ (by omega) (by omega) sp).mono ?_
  rintro e w2 ⟨v2, rfl, own2, hb2⟩
  obtain ⟨A2, c2, rfl, _, by2, _⟩ := own2.any
  refine hKQ.out _ _ (hs1r.trans hb2) (held_mono (S' := fun w' => Below w2.heap.size w2 w') (fun w' h => (hs1r.trans hb2).trans (h.mono (hs1r.trans hb2).size)) _ _ _ _ ?_)
  clear hKQ KQ
  have hs2r : Below w2.heap.size w2 w2 := Below.refl _ _
  try simp only [Act.put, List.setIfInBounds_toArray, List.set_cons_zero, List.set_cons_succ]
  refine held_callA 5 (by rfl) (by kernel_rfl) (by rfl) (fun KQ hKQ => ?_)
  go_simp
  refine (put16_any w2 A2 _ c2 _ _ by2 (Nat.le_refl _) (by omega) dp).mono ?_
  rintro e w3 ⟨v3, rfl, own3, hb3⟩
  refine hKQ.out _ _ (hs2r.trans hb3) (held_mono (S' := fun w' => Below w3.heap.size w3 w') (fun w' h => (hs2r.trans hb3).trans (h.mono (hs2r.trans hb3).size)) _ _ _ _ ?_)
  clear hKQ KQ
  have hs3r : Below w3.heap.size w3 w3 := Below.refl _ _
  try simp only [Act.put, List.setIfInBounds_toArray, List.set_cons_zero, List.set_cons_succ]
  (refine held_takeA 6 (by rfl) ?_ (by kernel_rfl) (fun _ _ _ h => h) hs3r ?_ ?_; rotate_left; (focus (intro wq hSw; have hrd : ∀ b o, b < w3.heap.size → wq.cell? ⟨b, o, none⟩ = w3.cell? ⟨b, o, none⟩ := (fun b o h => hSw.cell (p := ⟨b, o, none⟩) h); go_simp; try with_reducible rfl; done)); try simp only [Act.put, List.setIfInBounds_toArray, List.set_cons_zero, List.set_cons_succ])
  refine wpAnyH_done (by kernel_rfl) ?_ _
  try refine NoPanic.normal ?_
  go_wp2_with fail
  go_ret
  have hz2 : w1.heap.size ≤ w2.heap.size := hb2.size
  exact ⟨_, rfl, own3.less (by omega), hB.trans ((((Below.refl w1.heap.size w1).drew.trans hb2).trans (hb3.mono hb2.size)).mono hz)⟩
end Go.Proofs.YthbfnppgaaeilaaDoor
