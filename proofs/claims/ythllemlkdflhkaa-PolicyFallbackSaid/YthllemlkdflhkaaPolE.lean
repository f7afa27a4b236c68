/- policy: Good of any policy; Attrs at Normal; attr.Good. -/
import Derived.Test.YthllemlkdflhkaaPolC
import Derived.BigGuardPart
namespace Go.Proofs.Ythllemlkdflhkaa
set_option linter.unusedVariables false
open Go.RowKit

def inV (n l h : Int) : Bool := decide (l ≤ n) && decide (n ≤ h)
theorem inV_iff (n l h : Int) : inV n l h = true ↔ l ≤ n ∧ n ≤ h := by simp [inV]
set_option maxHeartbeats 400000 in
theorem in_any (n l h : Int) (w : World) : Calls Try.prog 14 #[.int .i64 n, .int .i64 l, .int .i64 h] w fun e w' => e = .returned (.bool (inV n l h)) ∧ w = w' := by
  go_enter Try.func14, Try.ntmps14
  go_wp2_with fail
  all_goals go_ret
  all_goals (refine ⟨ret_bool ?_, rfl⟩; simp only [inV]; simp; try omega)
def hopV (h : Int) : Bool := (h != 0) && (h != 4294967295) && (h / 16777216 != 127) && (h / 536870912 != 7)
set_option maxHeartbeats 400000 in
theorem hop_any (h : Int) (w : World) (h0 : 0 ≤ h) (h1 : h ≤ 4294967295) : Calls Try.prog 15 #[.int .u32 h] w fun e w' => e = .returned (.bool (hopV h)) ∧ w = w' := by
  go_enter Try.func15, Try.ntmps15
  go_wp2_with fail
  all_goals go_ret
  all_goals (refine ⟨ret_bool ?_, rfl⟩; simp_all [hopV])
def goodV (s h m p b : Int) : Bool := inV s 1 65535 && hopV h && inV m 0 4294967295 && inV b 0 4294967295 && inV p 0 15
set_option maxHeartbeats 800000 in
theorem good_any (s h m p b : Int) (w : World) (h0 : 0 ≤ h) (h1 : h ≤ 4294967295) : Calls Try.prog 9 #[.agg #[.int .i64 s, .int .u32 h, .int .i64 m, .int .i64 p, .int .i64 b]] w fun e w' => e = .returned (.bool (goodV s h m p b)) ∧ Below w.heap.size w w' := by
  have hB : Below w.heap.size w (w.alloc (.cells (polCs s h m p b) 32)) := ((Below.refl _ _).alloc (Nat.le_refl _) _)
  go_enter Try.func9, Try.ntmps9
  cases e1 : inV s 1 65535 <;> cases e2 : hopV h <;> cases e3 : inV m 0 4294967295 <;> cases e4 : inV b 0 4294967295 <;>
  go_wp2_with (first
    | (go_at_call 14; refine (in_any _ _ _ _).mono ?_; rintro e w' ⟨rfl, rfl⟩; simp only [e1, e3, e4])
    | (go_at_call 15; refine (hop_any _ _ h0 h1).mono ?_; rintro e w' ⟨rfl, rfl⟩; simp only [e2]))
  all_goals go_ret
  all_goals exact ⟨ret_bool (by simp [goodV, e1, e2, e3, e4]), hB⟩

set_option maxHeartbeats 800000 in
theorem attrs_bad (s h m p b lv : Int) (w : World) (h0 : 0 ≤ h) (h1 : h ≤ 4294967295) (hg : goodV s h m p b = false) :
    Calls Try.prog 8 #[.agg #[.int .i64 s, .int .u32 h, .int .i64 m, .int .i64 p, .int .i64 b], .int .i64 lv] w fun e w' => e = .returned (.tuple #[.agg attrZ, .bool false]) ∧ Below w.heap.size w w' := by
  have hp := (Blk.new w 32 (polCs s h m p b)).alloc (.cells attrZ 25)
  have hz := Blk.new (w.alloc (.cells (polCs s h m p b) 32)) 25 attrZ
  rw [World.size_alloc] at hz
  have hB : Below w.heap.size w ((w.alloc (.cells (polCs s h m p b) 32)).alloc (.cells attrZ 25)) := ((Below.refl _ _).alloc (Nat.le_refl _) _).alloc (by simp) _
  have hif : (Try.prog.info? 25).map (·.size) = some 5 := by kernel_rfl
  go_enter Try.func8, Try.ntmps8
  go_wp2_with fail
  go_at_call 9
  refine (good_any s h m p b _ h0 h1).mono ?_
  rintro e w1 ⟨rfl, hx⟩
  rw [hg]
  have hz := hz.below hx hz.lt
  have hB := hB.trans (hx.mono hB.size)
  have hth : w1.there (w.heap.size + 1) 0 5 := fun j hj => ⟨by
    rw [hz.cell]
    match j, hj with
    | 0, _ => rfl
    | 1, _ => rfl
    | 2, _ => rfl
    | 3, _ => rfl
    | 4, _ => rfl, hz.frozen _⟩
  have hzN := blk_setCells5 hz (.int .i64 0) (.slice none 0 0) (.int .u32 0) (.int .i64 0) (.bool false)
  have hBN : Below w.heap.size w (w1.setCells (w.heap.size + 1) 0 [.int .i64 0, .slice none 0 0, .int .u32 0, .int .i64 0, .bool false]) := ((((hB.setCell (p := ⟨w.heap.size + 1, 0, none⟩) (by simp) _).setCell (p := ⟨w.heap.size + 1, 1, none⟩) (by simp) _).setCell (p := ⟨w.heap.size + 1, 2, none⟩) (by simp) _).setCell (p := ⟨w.heap.size + 1, 3, none⟩) (by simp) _).setCell (p := ⟨w.heap.size + 1, 4, none⟩) (by simp) _
  go_wp2_with (refine wpList_store_mid (by rfl) 25 _ _ (by rfl) (w.heap.size + 1) 0 #[.int .i64 0, .slice none 0 0, .int .u32 0, .int .i64 0, .bool false] (by rfl) (by rfl) hth hif (by simp [Value.oneCell']) ?_)
  refine bodyPost_ret (results_cell_tmp rfl _ rfl (run_loadVar_mid _ _ _ _ [.int .i64 0, .slice none 0 0, .int .u32 0, .int .i64 0, .bool false] _ (fun j v hj => by rw [Nat.zero_add, hzN.cell]; simpa using hj) Try.underlying25 rfl hif)) rfl ?_
  exact ⟨rfl, hBN⟩

set_option maxHeartbeats 4000000 in
theorem attrs_norm (s h m p b : Int) (w : World) (h0 : 0 ≤ h) (h1 : h ≤ 4294967295) (hg : goodV s h m p b = true) :
    Calls Try.prog 8 #[.agg #[.int .i64 s, .int .u32 h, .int .i64 m, .int .i64 p, .int .i64 b], .int .i64 1] w fun e w' => ∃ g, e = .returned (.tuple #[.agg #[.int .i64 0, .slice (some ⟨g, 0, none⟩) 1 1, .int .u32 h, .int .i64 m, .bool true], .bool true]) ∧ w.heap.size ≤ g ∧ Blk w' g 3 #[.int .i64 s] ∧ Below w.heap.size w w' := by
  have hp := (Blk.new w 32 (polCs s h m p b)).alloc (.cells attrZ 25)
  have hz := Blk.new (w.alloc (.cells (polCs s h m p b) 32)) 25 attrZ
  rw [World.size_alloc] at hz
  have hB : Below w.heap.size w ((w.alloc (.cells (polCs s h m p b) 32)).alloc (.cells attrZ 25)) := ((Below.refl _ _).alloc (Nat.le_refl _) _).alloc (by simp) _
  have hif : (Try.prog.info? 25).map (·.size) = some 5 := by kernel_rfl
  go_enter Try.func8, Try.ntmps8
  go_wp2_with fail
  go_at_call 9
  refine (good_any s h m p b _ h0 h1).mono ?_
  rintro e w1 ⟨rfl, hx⟩
  rw [hg]
  have hp := hp.below hx hp.lt
  have hz := hz.below hx hz.lt
  have hB := hB.trans (hx.mono hB.size)
  have a0 := hp.cellv 0 (v := .int .i64 s) rfl
  have hp1 := hp.alloc (.cells #[.int .i64 s] 3)
  have b1 := hp1.cellv 1 (v := .int .u32 h) rfl
  have b2 := hp1.cellv 2 (v := .int .i64 m) rfl
  have hz2 := (hz.alloc (.cells #[.int .i64 s] 3)).alloc (.cells #[.int .i64 0, .slice (some ⟨w1.heap.size, 0, none⟩) 1 1, .int .u32 h, .int .i64 m, .bool true] 25)
  have hs2 := (Blk.new w1 3 #[.int .i64 s]).alloc (.cells #[.int .i64 0, .slice (some ⟨w1.heap.size, 0, none⟩) 1 1, .int .u32 h, .int .i64 m, .bool true] 25)
  have hB2 := (hB.alloc hB.size (.cells #[.int .i64 s] 3)).alloc (by have := hB.size; simp; omega) (.cells #[.int .i64 0, .slice (some ⟨w1.heap.size, 0, none⟩) 1 1, .int .u32 h, .int .i64 m, .bool true] 25)
  have hzl := hz.lt
  have hth : ((w1.alloc (.cells #[.int .i64 s] 3)).alloc (.cells #[.int .i64 0, .slice (some ⟨w1.heap.size, 0, none⟩) 1 1, .int .u32 h, .int .i64 m, .bool true] 25)).there (w.heap.size + 1) 0 5 := fun j hj => ⟨by
    rw [hz2.cell]
    match j, hj with
    | 0, _ => rfl
    | 1, _ => rfl
    | 2, _ => rfl
    | 3, _ => rfl
    | 4, _ => rfl, hz2.frozen _⟩
  have hzN := blk_setCells5 hz2 (.int .i64 0) (.slice (some ⟨w1.heap.size, 0, none⟩) 1 1) (.int .u32 h) (.int .i64 m) (.bool true)
  have hBN : Below w.heap.size w (((w1.alloc (.cells #[.int .i64 s] 3)).alloc (.cells #[.int .i64 0, .slice (some ⟨w1.heap.size, 0, none⟩) 1 1, .int .u32 h, .int .i64 m, .bool true] 25)).setCells (w.heap.size + 1) 0 [.int .i64 0, .slice (some ⟨w1.heap.size, 0, none⟩) 1 1, .int .u32 h, .int .i64 m, .bool true]) := ((((hB2.setCell (p := ⟨w.heap.size + 1, 0, none⟩) (by simp) _).setCell (p := ⟨w.heap.size + 1, 1, none⟩) (by simp) _).setCell (p := ⟨w.heap.size + 1, 2, none⟩) (by simp) _).setCell (p := ⟨w.heap.size + 1, 3, none⟩) (by simp) _).setCell (p := ⟨w.heap.size + 1, 4, none⟩) (by simp) _
  have hsN : Blk (((w1.alloc (.cells #[.int .i64 s] 3)).alloc (.cells #[.int .i64 0, .slice (some ⟨w1.heap.size, 0, none⟩) 1 1, .int .u32 h, .int .i64 m, .bool true] 25)).setCells (w.heap.size + 1) 0 [.int .i64 0, .slice (some ⟨w1.heap.size, 0, none⟩) 1 1, .int .u32 h, .int .i64 m, .bool true]) w1.heap.size 3 #[.int .i64 s] := ((((hs2.far (p := ⟨w.heap.size + 1, 0, none⟩) (by simp; omega) _).far (p := ⟨w.heap.size + 1, 1, none⟩) (by simp; omega) _).far (p := ⟨w.heap.size + 1, 2, none⟩) (by simp; omega) _).far (p := ⟨w.heap.size + 1, 3, none⟩) (by simp; omega) _).far (p := ⟨w.heap.size + 1, 4, none⟩) (by simp; omega) _
  go_wp2_with (first
    | (go_at_call 14; refine (in_yes _ _ _ _ (by omega) (by omega)).mono ?_; rintro e w' ⟨rfl, rfl⟩)
    | (refine wpList_store_mid (by rfl) 25 (.tmp 4) (.tmp 26) (by rfl) (w.heap.size + 1) 0 #[.int .i64 0, .slice (some ⟨w1.heap.size, 0, none⟩) 1 1, .int .u32 h, .int .i64 m, .bool true] (by rfl) (by rfl) hth hif (by simp [Value.oneCell']) ?_))
  refine bodyPost_ret (results_cell_tmp rfl _ rfl (run_loadVar_mid _ _ _ _ [.int .i64 0, .slice (some ⟨w1.heap.size, 0, none⟩) 1 1, .int .u32 h, .int .i64 m, .bool true] _ (fun j v hj => by rw [Nat.zero_add, hzN.cell]; simpa using hj) Try.underlying25 rfl hif)) rfl ?_
  exact ⟨_, rfl, hB.size, hsN, hBN⟩

set_option maxHeartbeats 400000 in
theorem isAs_yes (s : Int) (w : World) (hs : 1 ≤ s ∧ s ≤ 65535) : Calls Try.prog 18 #[.int .i64 s] w fun e w' => e = .returned (.bool true) ∧ w = w' := by
  go_enter Try.func18, Try.ntmps18
  go_wp2_with fail
  all_goals try (exfalso; omega)
  all_goals go_ret
  all_goals exact ⟨ret_bool (by simp; try omega), rfl⟩
set_option maxHeartbeats 400000 in
theorem notAs_no (s : Int) (w : World) (hs : 1 ≤ s ∧ s ≤ 65535) : Calls Try.prog 17 #[.int .i64 s] w fun e w' => e = .returned (.bool false) ∧ w = w' := by
  go_enter Try.func17, Try.ntmps17
  go_wp2_with (go_at_call 18; refine (isAs_yes _ _ hs).mono ?_; rintro e w' ⟨rfl, rfl⟩)
  go_ret
  exact ⟨rfl, rfl⟩
set_option maxHeartbeats 800000 in
theorem index_none (w : World) (g n c : Nat) (s : Int) (hs : 1 ≤ s ∧ s ≤ 65535) (hn : n ≤ 100) (hc : ∀ j, j < n → w.cell? ⟨g, j, none⟩ = some (.int .i64 s)) :
    Calls Try.prog 20 #[.slice (some ⟨g, 0, none⟩) n c, .func (.func 17) #[] #[]] w fun e w' => e = .returned (.int .i64 (-1)) ∧ w = w' := by
  go_enter Try.func20, Try.ntmps20
  go_wp2_with fail
  go_loop [8] (fun i => ∃ k : Nat, k ≤ n ∧ i = .int .i64 (k : Int)) (fun i => n - (intOf i).toNat)
  case atStart => exact ⟨0, Nat.zero_le _, rfl⟩
  case round =>
    obtain ⟨k, hk, rfl⟩ := hrel
    by_cases hlt : k < n
    · have hck := hc k hlt
      go_wp2_with (go_at_call 17; refine (notAs_no _ _ hs).mono ?_; rintro e w' ⟨rfl, rfl⟩)
      go_round
      case rel => exact ⟨k + 1, by omega, by go_num⟩
      case measure => simp [intOf]; omega
    · obtain rfl : n = k := by omega
      go_wp2_with fail
      go_ret
      exact ⟨rfl, rfl⟩
set_option maxHeartbeats 400000 in
theorem contains_no (w : World) (g n c : Nat) (s : Int) (hs : 1 ≤ s ∧ s ≤ 65535) (hn : n ≤ 100) (hc : ∀ j, j < n → w.cell? ⟨g, j, none⟩ = some (.int .i64 s)) :
    Calls Try.prog 16 #[.slice (some ⟨g, 0, none⟩) n c, .func (.func 17) #[] #[]] w fun e w' => e = .returned (.bool false) ∧ w = w' := by
  go_enter Try.func16, Try.ntmps16
  go_wp2_with (go_at_call 20; refine (index_none w g n c s hs hn hc).mono ?_; rintro e w' ⟨rfl, rfl⟩)
  go_ret
  exact ⟨rfl, rfl⟩
set_option maxHeartbeats 800000 in
theorem attrGood_yes (w : World) (g n c : Nat) (s h m : Int) (h0 : 0 ≤ h) (h1 : h ≤ 4294967295) (hh : hopV h = true) (hm : 0 ≤ m ∧ m ≤ 4294967295) (hs : 1 ≤ s ∧ s ≤ 65535) (hn : n ≤ 16) (hg : g < w.heap.size) (hc : ∀ j, j < n → w.cell? ⟨g, j, none⟩ = some (.int .i64 s)) :
    Calls Try.prog 10 #[.agg #[.int .i64 0, .slice (some ⟨g, 0, none⟩) n c, .int .u32 h, .int .i64 m, .bool true]] w fun e w' => e = .returned (.bool true) ∧ Below w.heap.size w w' := by
  have hB := (Below.refl w.heap.size w).alloc (Nat.le_refl _) (.cells #[.int .i64 0, .slice (some ⟨g, 0, none⟩) n c, .int .u32 h, .int .i64 m, .bool true] 25)
  have hcn := contains_no (w.alloc (.cells #[.int .i64 0, .slice (some ⟨g, 0, none⟩) n c, .int .u32 h, .int .i64 m, .bool true] 25)) g n c s hs (by omega) (fun j hj => (World.cell?_alloc_lt w _ _ hg).trans (hc j hj))
  go_enter Try.func10, Try.ntmps10
  go_wp2_with (first
    | (go_at_call 15; refine (hop_any _ _ h0 h1).mono ?_; rintro e w' ⟨rfl, rfl⟩; simp only [hh])
    | (go_at_call 16; refine hcn.mono ?_; rintro e w' ⟨rfl, rfl⟩))
  all_goals try (exfalso; omega)
  all_goals go_ret
  all_goals exact ⟨ret_bool (by simp; try omega), hB⟩
end Go.Proofs.Ythllemlkdflhkaa
