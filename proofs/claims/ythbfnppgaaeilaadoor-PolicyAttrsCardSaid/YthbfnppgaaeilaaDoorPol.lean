/- policy: Better, and the law PolicyBetter. policy: Good and Attrs, and the document's example (lives). policy: lives. policy: Good of any policy; Attrs at Normal; attr.Good. policy: PolicyFallback. -/
import Derived.Test.YthbfnppgaaeilaaDoorRows
import Derived.Test.YthbfnppgaaeilaaDoorLib
import Derived.BigGuardPart
namespace Go.Proofs.YthbfnppgaaeilaaDoor
set_option linter.unusedVariables false
open Go.RowKit

def cmpV (x y : Int) : Int := if x < y then -1 else if y < x then 1 else 0
def orV (x y z : Int) : Int := if x ≠ 0 then x else if y ≠ 0 then y else z
def attrCs (o : Int) (A : Option Addr) (n c : Nat) (h m : Int) (k : Bool) : Array Value := #[.int .i64 o, .slice A n c, .int .u32 h, .int .i64 m, .bool k]
def medV (m : Int) (k : Bool) : Int := if k then m else 0
def betterV (o1 : Int) (n1 : Nat) (m1 o2 : Int) (n2 : Nat) (m2 : Int) : Bool := decide (n1 < n2 ∨ (n1 = n2 ∧ (o1 < o2 ∨ (o1 = o2 ∧ m1 < m2))))
theorem betterV_or (o1 : Int) (n1 : Nat) (m1 o2 : Int) (n2 : Nat) (m2 : Int) : decide (orV (cmpV n1 n2) (cmpV o1 o2) (cmpV m1 m2) < 0) = betterV o1 n1 m1 o2 n2 m2 := by
  unfold betterV
  rw [Bool.eq_iff_iff, decide_eq_true_iff, decide_eq_true_iff]
  unfold orV cmpV
  repeat' (first | omega | split)

theorem betterV_self (o : Int) (n : Nat) (m : Int) : betterV o n m o n m = false := by unfold betterV; simp
theorem betterV_anti {o1 : Int} {n1 : Nat} {m1 o2 : Int} {n2 : Nat} {m2 : Int} (h : betterV o1 n1 m1 o2 n2 m2 = true) : betterV o2 n2 m2 o1 n1 m1 = false := by
  have h := of_decide_eq_true h
  exact decide_eq_false (by omega)
theorem betterV_trans {o1 : Int} {n1 : Nat} {m1 o2 : Int} {n2 : Nat} {m2 o3 : Int} {n3 : Nat} {m3 : Int} (h : betterV o1 n1 m1 o2 n2 m2 = true) (h' : betterV o2 n2 m2 o3 n3 m3 = true) : betterV o1 n1 m1 o3 n3 m3 = true := by
  have h := of_decide_eq_true h
  have h' := of_decide_eq_true h'
  exact decide_eq_true (by omega)
end Go.Proofs.YthbfnppgaaeilaaDoor

namespace Go.Proofs.YthbfnppgaaeilaaDoor
set_option linter.unusedVariables false
open Go.RowKit

set_option maxHeartbeats 400000 in
theorem in_yes (n l h : Int) (w : World) (h1 : l ≤ n) (h2 : n ≤ h) : Calls Tryd.prog 26 #[.int .i64 n, .int .i64 l, .int .i64 h] w fun e w' => e = .returned (.bool true) ∧ w = w' := by
  go_enter Tryd.func26, Tryd.ntmps26
  go_wp2_with fail
  all_goals go_ret
  all_goals exact ⟨ret_bool (by simp), rfl⟩
def hopOk (h : Int) : Prop := h ≠ 0 ∧ h ≠ 4294967295 ∧ h / 16777216 ≠ 127 ∧ h / 536870912 ≠ 7
set_option maxHeartbeats 400000 in
theorem hop9 (w : World) : Calls Tryd.prog 28 #[.int .u32 9] w fun e w' => e = .returned (.bool true) ∧ w = w' := by
  go_enter Tryd.func28, Tryd.ntmps28
  go_wp2_with fail
  all_goals go_ret
  all_goals exact ⟨rfl, rfl⟩
def polCs (s h m p b : Int) : Array Value := #[.int .i64 s, .int .u32 h, .int .i64 m, .int .i64 p, .int .i64 b]
set_option maxHeartbeats 800000 in
theorem good9 (w : World) : Calls Tryd.prog 9 #[.agg #[.int .i64 7, .int .u32 9, .int .i64 0, .int .i64 2, .int .i64 0]] w fun e w' => e = .returned (.bool true) ∧ Below w.heap.size w w' := by
  have hB : Below w.heap.size w (w.alloc (.cells (polCs 7 9 0 2 0) 24)) := ((Below.refl _ _).alloc (Nat.le_refl _) _)
  go_enter Tryd.func9, Tryd.ntmps9
  go_wp2_with (first
    | (go_at_call 26; refine (in_yes _ _ _ _ (by omega) (by omega)).mono ?_; rintro e w' ⟨rfl, rfl⟩)
    | (go_at_call 28; refine (hop9 _).mono ?_; rintro e w' ⟨rfl, rfl⟩))
  all_goals go_ret
  all_goals exact ⟨rfl, hB⟩
def attrZ : Array Value := #[.int .i64 0, .slice none 0 0, .int .u32 0, .int .i64 0, .bool false]
theorem ints_ok : ElemOk Tryd.prog 25 3 1 8 (.int .i64 0) := ⟨by kernel_rfl, by kernel_rfl, rfl, by decide⟩
def attrVs (h : Int) (v : Value) (b : Int) : Array Value := #[.int .i64 0, v, .int .u32 h, .int .i64 b, .bool true]
theorem results_cell_tmp {P : Program} {fn : Func} {a u : Tmp} {ty : TypeId} {w : World} {ad : Addr} {v : Value} (h : fn.results = #[.cell a ty, .tmp u]) (tmps : Array Value) (ha : tmps.getD a undef = .pointer (some ad)) (hl : (loadVar ty ad).run P w = .ok v w) :
    (results fn tmps).run P w = .ok (.tuple #[v, tmps.getD u undef]) w := by
  have ha2 := ha
  simp only [Array.getD_eq_getD_getElem?] at ha2
  simp [results, h, ha2, asAddr, hl]
theorem blk_setCells5 {w : World} {g : Nat} {t : TypeId} (h : Blk w g t attrZ) (a b c d e : Value) : Blk (w.setCells g 0 [a, b, c, d, e]) g t #[a, b, c, d, e] := by
  have := ((((h.set_ 0 a).set_ 1 b).set_ 2 c).set_ 3 d).set_ 4 e
  simp only [attrZ, List.setIfInBounds_toArray, List.set_cons_zero, List.set_cons_succ] at this
  exact this
set_option maxHeartbeats 4000000 in
theorem attrs_fall (s h m b : Int) (p : Nat) (w : World) (hp15 : p ≤ 15) (hs : 1 ≤ s ∧ s ≤ 65535)
    (hG : ∀ w, Calls Tryd.prog 9 #[.agg #[.int .i64 s, .int .u32 h, .int .i64 m, .int .i64 p, .int .i64 b]] w fun e w' => e = .returned (.bool true) ∧ Below w.heap.size w w') :
    Calls Tryd.prog 5 #[.agg #[.int .i64 s, .int .u32 h, .int .i64 m, .int .i64 p, .int .i64 b], .int .i64 2] w fun e w' =>
    ∃ v B, e = .returned (.tuple #[.agg #[.int .i64 0, v, .int .u32 h, .int .i64 b, .bool true], .bool true]) ∧ w.heap.size ≤ B ∧ Own1 w' B 3 1 v (p + 1) (List.replicate (p + 1) (.int .i64 s)) ∧ Below w.heap.size w w' := by
  have hp := (Blk.new w 24 (polCs s h m p b)).alloc (.cells attrZ 27)
  have hz := Blk.new (w.alloc (.cells (polCs s h m p b) 24)) 27 attrZ
  rw [World.size_alloc] at hz
  have hB : Below w.heap.size w ((w.alloc (.cells (polCs s h m p b) 24)).alloc (.cells attrZ 27)) := ((Below.refl _ _).alloc (Nat.le_refl _) _).alloc (by simp) _
  go_enter Tryd.func5, Tryd.ntmps5
  go_wp2_with fail
  go_at_call 9
  refine (hG _).mono ?_
  rintro e w1 ⟨rfl, hx⟩
  have hp := hp.below hx hp.lt
  have hz := hz.below hx hz.lt
  have hB := hB.trans (hx.mono hB.size)
  clear hx
  have a0 := hp.cellv 0 (v := .int .i64 s) rfl
  have a1 := hp.cellv 1 (v := .int .u32 h) rfl
  have a2 := hp.cellv 2 (v := .int .i64 m) rfl
  have hp1 := hp.alloc (.cells #[.int .i64 s] 3)
  have hz1 := hz.alloc (.cells #[.int .i64 s] 3)
  have hB1 := hB.alloc hB.size (.cells #[.int .i64 s] 3)
  have hv1 := Own1.lit (base := w1.heap.size) (size := 1) (et := 3) w1 #[.int .i64 s] 1 (Nat.le_refl _) (by decide) rfl
  have b1 := hp1.cellv 1 (v := .int .u32 h) rfl
  have b2 := hp1.cellv 2 (v := .int .i64 m) rfl
  have hp2 := hp1.alloc (.cells (attrVs h (.slice (some ⟨w1.heap.size, 0, none⟩) 1 1) m) 27)
  have c4 := hp2.cellv 4 (v := .int .i64 b) rfl
  have l1 := hz.lt
  have hp3 := hp1.alloc (.cells (attrVs h (.slice (some ⟨w1.heap.size, 0, none⟩) 1 1) b) 27)
  have hz3 := hz1.alloc (.cells (attrVs h (.slice (some ⟨w1.heap.size, 0, none⟩) 1 1) b) 27)
  have hv3 := hv1.alloc (.cells (attrVs h (.slice (some ⟨w1.heap.size, 0, none⟩) 1 1) b) 27)
  have hB3 := hB1.alloc hB1.size (.cells (attrVs h (.slice (some ⟨w1.heap.size, 0, none⟩) 1 1) b) 27)
  have ha3 := Blk.new (w1.alloc (.cells #[.int .i64 s] 3)) 27 (attrVs h (.slice (some ⟨w1.heap.size, 0, none⟩) 1 1) b)
  rw [World.size_alloc] at ha3
  have d3 := hp3.cellv 3 (v := .int .i64 p) rfl
  unfold attrVs at c4 d3
  go_wp2_with (go_at_call 26; refine (in_yes _ _ _ _ (by omega) (by omega)).mono ?_; rintro e w' ⟨rfl, rfl⟩)
  have lp := hp.lt
  have hbw : w.heap.size + 2 ≤ w1.heap.size := by have := hz.lt; omega
  have lsz := hB3.size
  have l3 : w1.heap.size ≤ ((w1.alloc (.cells #[.int .i64 s] 3)).alloc (.cells (attrVs h (.slice (some ⟨w1.heap.size, 0, none⟩) 1 1) b) 27)).heap.size := by simp; omega
  have hn3 : Value.ownBlock (.slice (some ⟨w1.heap.size, 0, none⟩) 1 1) ≠ some (w1.heap.size + 1) := by simp [Value.ownBlock]
  change Code.wp _ _ _ _ ((w1.alloc (.cells #[.int .i64 s] 3)).alloc (.cells (attrVs h (.slice (some ⟨w1.heap.size, 0, none⟩) 1 1) b) 27))
  generalize ((w1.alloc (.cells #[.int .i64 s] 3)).alloc (.cells (attrVs h (.slice (some ⟨w1.heap.size, 0, none⟩) 1 1) b) 27)) = w2 at *
  generalize (Value.slice (some ⟨w1.heap.size, 0, none⟩) 1 1) = v2 at *
  generalize hgA : w1.heap.size + 1 = gA at *
  generalize hbase : w1.heap.size = base at *
  clear hp hz hB a0 a1 a2 hp1 hz1 hB1 hv1 b1 b2 hp2 c4 d3
  go_loopw [32] (fun i wr => ∃ (k : Nat) (v : Value), k ≤ p ∧ i = .int .i64 k ∧ Blk wr w.heap.size 24 (polCs s h m p b) ∧ Blk wr (w.heap.size + 1) 27 attrZ ∧ Blk wr gA 27 (attrVs h v b) ∧ Own1 wr base 3 1 v (k + 1) (List.replicate (k + 1) (.int .i64 s)) ∧ v.ownBlock ≠ some gA ∧ Below w.heap.size w wr ∧ base ≤ wr.heap.size) (fun i _ => p - (intOf i).toNat)
  case atStart => exact ⟨0, _, Nat.zero_le _, rfl, hp3, hz3, ha3, hv3, hn3, hB3, l3⟩
  case round =>
    obtain ⟨k, v, hk, rfl, hp, hz, ha, hv, hn, hB, hl⟩ := hrel
    have e0 := (hp.cellv 0 (v := .int .i64 s) rfl)
    have e1 := ha.cellv 1 (v := v) rfl
    by_cases hlt : k < p
    · have hX := one_src wr (.int .i64 s) 3
      have hvl := hv.alloc (.cells #[.int .i64 s] 3)
      have hgl := ha.lt
      have e1' := (ha.alloc (.cells #[.int .i64 s] 3)).cellv 1 (v := v) rfl
      have e0' := (hp.alloc (.cells #[.int .i64 s] 3)).cellv 0 (v := .int .i64 s) rfl
      have hn0 : ∀ j, j < base → v.ownBlock ≠ some j := fun j hj he => by have := (hv.lt j he).1; omega
      go_wp2_with (at_builtin; refine wpList_app1 _ ints_ok rfl (.tmp 35) (.tmp 38) rfl base v (k + 1) _ rfl hvl _ 1 1 [.int .i64 s] rfl rfl hX (by simp [Value.oneCell']) (by simp [maxLen]; omega) (by omega) (by simp; omega) ?_; intro v3 w3 hown hg hd; have hp := (hp.alloc (.cells #[.int .i64 s] 3)).grown hg (fun e => hn0 _ (by omega) e.symm); have hz := (hz.alloc (.cells #[.int .i64 s] 3)).grown hg (fun e => hn0 _ (by omega) e.symm); have ha := (ha.alloc (.cells #[.int .i64 s] 3)).grown hg (fun e => hn e.symm); have hB := (hB.alloc hB.size (.cells #[.int .i64 s] 3)).trans ((hvl.below_app hg (by simp; omega)).mono (by omega)); have f1 := ha.frozen 1; have q1 := ha.cellv 1 (v := v) rfl; have hsz := hg.size; have hn3 : v3.ownBlock ≠ some gA := (by rcases hd with e | e <;> rw [e]; exact hn; simp; omega); obtain ⟨g3, c3, rfl, hg3b, hg3s, hc3, _⟩ := hown.form (by omega))
      refine ⟨⟨k + 1, _, by omega, by go_num, hp.far (by simp; omega) _, hz.far (by simp; omega) _, ha.set_ 1 _, ?_, hn3, hB.setCell (by simp; omega) _, by simp [World.setCell]; simp at hsz; omega⟩, by simp [intOf]; omega⟩
      rw [List.replicate_succ']
      exact hown.setOther hn3 _
    · have hkp : k = p := by omega
      have hzr := hz
      have hBr := hB
      have hvr := hv
      have hnr := hn
      subst hkp
      have r0 := ha.cellv 0 (v := .int .i64 0) rfl
      have r2 := ha.cellv 2 (v := .int .u32 h) rfl
      have r3 := ha.cellv 3 (v := .int .i64 b) rfl
      have r4 := ha.cellv 4 (v := .bool true) rfl
      have hth : wr.there (w.heap.size + 1) 0 5 := fun j hj => ⟨by
        rw [hzr.cell]
        match j, hj with
        | 0, _ => rfl
        | 1, _ => rfl
        | 2, _ => rfl
        | 3, _ => rfl
        | 4, _ => rfl, hzr.frozen _⟩
      have hif : (Tryd.prog.info? 27).map (·.size) = some 5 := by kernel_rfl
      obtain ⟨gv, cv, rfl, _⟩ := hvr.form (by omega)
      go_wp2_with (refine wpList_store_mid (by rfl) 27 (.tmp 4) (.tmp 42) (by rfl) (w.heap.size + 1) 0 #[.int .i64 0, .slice (some ⟨gv, 0, none⟩) (k + 1) cv, .int .u32 h, .int .i64 b, .bool true] (by rfl) (by rfl) hth hif (by simp [Value.oneCell']) ?_)
      have hzN := blk_setCells5 hzr (.int .i64 0) (.slice (some ⟨gv, 0, none⟩) (k + 1) cv) (.int .u32 h) (.int .i64 b) (.bool true)
      have hBN : Below w.heap.size w (wr.setCells (w.heap.size + 1) 0 [.int .i64 0, .slice (some ⟨gv, 0, none⟩) (k + 1) cv, .int .u32 h, .int .i64 b, .bool true]) := ((((hBr.setCell (p := ⟨w.heap.size + 1, 0, none⟩) (by simp) _).setCell (p := ⟨w.heap.size + 1, 1, none⟩) (by simp) _).setCell (p := ⟨w.heap.size + 1, 2, none⟩) (by simp) _).setCell (p := ⟨w.heap.size + 1, 3, none⟩) (by simp) _).setCell (p := ⟨w.heap.size + 1, 4, none⟩) (by simp) _
      have hvN : Own1 (wr.setCells (w.heap.size + 1) 0 [.int .i64 0, .slice (some ⟨gv, 0, none⟩) (k + 1) cv, .int .u32 h, .int .i64 b, .bool true]) base 3 1 (.slice (some ⟨gv, 0, none⟩) (k + 1) cv) (k + 1) (List.replicate (k + 1) (.int .i64 s)) :=
        ((((hvr.setOther (p := ⟨w.heap.size + 1, 0, none⟩) (by simp [Value.ownBlock]; omega) _).setOther (p := ⟨w.heap.size + 1, 1, none⟩) (by simp [Value.ownBlock]; omega) _).setOther (p := ⟨w.heap.size + 1, 2, none⟩) (by simp [Value.ownBlock]; omega) _).setOther (p := ⟨w.heap.size + 1, 3, none⟩) (by simp [Value.ownBlock]; omega) _).setOther (p := ⟨w.heap.size + 1, 4, none⟩) (by simp [Value.ownBlock]; omega) _
      refine bodyPost_ret (results_cell_tmp rfl _ rfl (run_loadVar_mid _ _ _ _ [.int .i64 0, .slice (some ⟨gv, 0, none⟩) (k + 1) cv, .int .u32 h, .int .i64 b, .bool true] _ (fun j v hj => by rw [Nat.zero_add, hzN.cell]; simpa using hj) Tryd.underlying27 rfl hif)) rfl ?_
      exact ⟨_, base, rfl, by omega, hvN, hBN⟩
end Go.Proofs.YthbfnppgaaeilaaDoor

namespace Go.Proofs.YthbfnppgaaeilaaDoor
set_option linter.unusedVariables false
open Go.RowKit

set_option maxHeartbeats 1000000 in
theorem lives_any (w : World) :
    Calls Tryd.prog 12 #[] w fun e w' => e = .returned (.bool true) ∧ Below w.heap.size w w' := by
  go_enter Tryd.func12, Tryd.ntmps12
  go_wp2_with fail
  refine (attrs_fall 7 9 0 0 2 w (by omega) (by omega) (fun w => good9 w)).mono ?_
  rintro e w1 ⟨v, B, rfl, hB, hown, hb⟩
  obtain ⟨g, c, rfl, hg, hgs, hc, _⟩ := hown.form (by omega)
  have k2 := hown.cell 2 (by omega)
  go_wp2_with fail
  go_ret
  exact ⟨rfl, hb.alloc hb.size _⟩
end Go.Proofs.YthbfnppgaaeilaaDoor

namespace Go.Proofs.YthbfnppgaaeilaaDoor
set_option linter.unusedVariables false
open Go.RowKit

def inV (n l h : Int) : Bool := decide (l ≤ n) && decide (n ≤ h)
theorem inV_iff (n l h : Int) : inV n l h = true ↔ l ≤ n ∧ n ≤ h := by simp [inV]
set_option maxHeartbeats 400000 in
theorem in_any (n l h : Int) (w : World) : Calls Tryd.prog 26 #[.int .i64 n, .int .i64 l, .int .i64 h] w fun e w' => e = .returned (.bool (inV n l h)) ∧ w = w' := by
  go_enter Tryd.func26, Tryd.ntmps26
  go_wp2_with fail
  all_goals go_ret
  all_goals (refine ⟨ret_bool ?_, rfl⟩; simp only [inV]; simp; try omega)
def hopV (h : Int) : Bool := (h != 0) && (h != 4294967295) && (h / 16777216 != 127) && (h / 536870912 != 7)
set_option maxHeartbeats 400000 in
theorem hop_any (h : Int) (w : World) (h0 : 0 ≤ h) (h1 : h ≤ 4294967295) : Calls Tryd.prog 28 #[.int .u32 h] w fun e w' => e = .returned (.bool (hopV h)) ∧ w = w' := by
  go_enter Tryd.func28, Tryd.ntmps28
  go_wp2_with fail
  all_goals go_ret
  all_goals (refine ⟨ret_bool ?_, rfl⟩; simp_all [hopV])
def goodV (s h m p b : Int) : Bool := inV s 1 65535 && hopV h && inV m 0 4294967295 && inV b 0 4294967295 && inV p 0 15
set_option maxHeartbeats 800000 in
theorem good_any (s h m p b : Int) (w : World) (h0 : 0 ≤ h) (h1 : h ≤ 4294967295) : Calls Tryd.prog 9 #[.agg #[.int .i64 s, .int .u32 h, .int .i64 m, .int .i64 p, .int .i64 b]] w fun e w' => e = .returned (.bool (goodV s h m p b)) ∧ Below w.heap.size w w' := by
  have hB : Below w.heap.size w (w.alloc (.cells (polCs s h m p b) 24)) := ((Below.refl _ _).alloc (Nat.le_refl _) _)
  go_enter Tryd.func9, Tryd.ntmps9
  cases e1 : inV s 1 65535 <;> cases e2 : hopV h <;> cases e3 : inV m 0 4294967295 <;> cases e4 : inV b 0 4294967295 <;>
  go_wp2_with (first
    | (go_at_call 26; refine (in_any _ _ _ _).mono ?_; rintro e w' ⟨rfl, rfl⟩; simp only [e1, e3, e4])
    | (go_at_call 28; refine (hop_any _ _ h0 h1).mono ?_; rintro e w' ⟨rfl, rfl⟩; simp only [e2]))
  all_goals go_ret
  all_goals exact ⟨ret_bool (by simp [goodV, e1, e2, e3, e4]), hB⟩

set_option maxHeartbeats 800000 in
theorem attrs_bad (s h m p b lv : Int) (w : World) (h0 : 0 ≤ h) (h1 : h ≤ 4294967295) (hg : goodV s h m p b = false) :
    Calls Tryd.prog 5 #[.agg #[.int .i64 s, .int .u32 h, .int .i64 m, .int .i64 p, .int .i64 b], .int .i64 lv] w fun e w' => e = .returned (.tuple #[.agg attrZ, .bool false]) ∧ Below w.heap.size w w' := by
  have hp := (Blk.new w 24 (polCs s h m p b)).alloc (.cells attrZ 27)
  have hz := Blk.new (w.alloc (.cells (polCs s h m p b) 24)) 27 attrZ
  rw [World.size_alloc] at hz
  have hB : Below w.heap.size w ((w.alloc (.cells (polCs s h m p b) 24)).alloc (.cells attrZ 27)) := ((Below.refl _ _).alloc (Nat.le_refl _) _).alloc (by simp) _
  have hif : (Tryd.prog.info? 27).map (·.size) = some 5 := by kernel_rfl
  go_enter Tryd.func5, Tryd.ntmps5
  go_wp2_with fail
  go_at_call 9
  refine (good_any s h m p b _ h0 h1).mono ?_
  rintro e w1 ⟨rfl, hx⟩
  rw [hg]
  have hz := hz.below hx hz.lt
  have hB := hB.trans (hx.mono hB.size)
  have hth : w1.there (w.heap.size + 1) 0 5 := fun j hj => ⟨by
    rw [hz.cell]
    match j, hj with
    | 0, _ => rfl
    | 1, _ => rfl
    | 2, _ => rfl
    | 3, _ => rfl
    | 4, _ => rfl, hz.frozen _⟩
  have hzN := blk_setCells5 hz (.int .i64 0) (.slice none 0 0) (.int .u32 0) (.int .i64 0) (.bool false)
  have hBN : Below w.heap.size w (w1.setCells (w.heap.size + 1) 0 [.int .i64 0, .slice none 0 0, .int .u32 0, .int .i64 0, .bool false]) := ((((hB.setCell (p := ⟨w.heap.size + 1, 0, none⟩) (by simp) _).setCell (p := ⟨w.heap.size + 1, 1, none⟩) (by simp) _).setCell (p := ⟨w.heap.size + 1, 2, none⟩) (by simp) _).setCell (p := ⟨w.heap.size + 1, 3, none⟩) (by simp) _).setCell (p := ⟨w.heap.size + 1, 4, none⟩) (by simp) _
  go_wp2_with (refine wpList_store_mid (by rfl) 27 _ _ (by rfl) (w.heap.size + 1) 0 #[.int .i64 0, .slice none 0 0, .int .u32 0, .int .i64 0, .bool false] (by rfl) (by rfl) hth hif (by simp [Value.oneCell']) ?_)
  refine bodyPost_ret (results_cell_tmp rfl _ rfl (run_loadVar_mid _ _ _ _ [.int .i64 0, .slice none 0 0, .int .u32 0, .int .i64 0, .bool false] _ (fun j v hj => by rw [Nat.zero_add, hzN.cell]; simpa using hj) Tryd.underlying27 rfl hif)) rfl ?_
  exact ⟨rfl, hBN⟩

set_option maxHeartbeats 4000000 in
theorem attrs_norm (s h m p b : Int) (w : World) (h0 : 0 ≤ h) (h1 : h ≤ 4294967295) (hg : goodV s h m p b = true) :
    Calls Tryd.prog 5 #[.agg #[.int .i64 s, .int .u32 h, .int .i64 m, .int .i64 p, .int .i64 b], .int .i64 1] w fun e w' => ∃ g, e = .returned (.tuple #[.agg #[.int .i64 0, .slice (some ⟨g, 0, none⟩) 1 1, .int .u32 h, .int .i64 m, .bool true], .bool true]) ∧ w.heap.size ≤ g ∧ Blk w' g 3 #[.int .i64 s] ∧ Below w.heap.size w w' := by
  have hp := (Blk.new w 24 (polCs s h m p b)).alloc (.cells attrZ 27)
  have hz := Blk.new (w.alloc (.cells (polCs s h m p b) 24)) 27 attrZ
  rw [World.size_alloc] at hz
  have hB : Below w.heap.size w ((w.alloc (.cells (polCs s h m p b) 24)).alloc (.cells attrZ 27)) := ((Below.refl _ _).alloc (Nat.le_refl _) _).alloc (by simp) _
  have hif : (Tryd.prog.info? 27).map (·.size) = some 5 := by kernel_rfl
  go_enter Tryd.func5, Tryd.ntmps5
  go_wp2_with fail
  go_at_call 9
  refine (good_any s h m p b _ h0 h1).mono ?_
  rintro e w1 ⟨rfl, hx⟩
  rw [hg]
  have hp := hp.below hx hp.lt
  have hz := hz.below hx hz.lt
  have hB := hB.trans (hx.mono hB.size)
  have a0 := hp.cellv 0 (v := .int .i64 s) rfl
  have hp1 := hp.alloc (.cells #[.int .i64 s] 3)
  have b1 := hp1.cellv 1 (v := .int .u32 h) rfl
  have b2 := hp1.cellv 2 (v := .int .i64 m) rfl
  have hz2 := (hz.alloc (.cells #[.int .i64 s] 3)).alloc (.cells #[.int .i64 0, .slice (some ⟨w1.heap.size, 0, none⟩) 1 1, .int .u32 h, .int .i64 m, .bool true] 27)
  have hs2 := (Blk.new w1 3 #[.int .i64 s]).alloc (.cells #[.int .i64 0, .slice (some ⟨w1.heap.size, 0, none⟩) 1 1, .int .u32 h, .int .i64 m, .bool true] 27)
  have hB2 := (hB.alloc hB.size (.cells #[.int .i64 s] 3)).alloc (by have := hB.size; simp; omega) (.cells #[.int .i64 0, .slice (some ⟨w1.heap.size, 0, none⟩) 1 1, .int .u32 h, .int .i64 m, .bool true] 27)
  have hzl := hz.lt
  have hth : ((w1.alloc (.cells #[.int .i64 s] 3)).alloc (.cells #[.int .i64 0, .slice (some ⟨w1.heap.size, 0, none⟩) 1 1, .int .u32 h, .int .i64 m, .bool true] 27)).there (w.heap.size + 1) 0 5 := fun j hj => ⟨by
    rw [hz2.cell]
    match j, hj with
    | 0, _ => rfl
    | 1, _ => rfl
    | 2, _ => rfl
    | 3, _ => rfl
    | 4, _ => rfl, hz2.frozen _⟩
  have hzN := blk_setCells5 hz2 (.int .i64 0) (.slice (some ⟨w1.heap.size, 0, none⟩) 1 1) (.int .u32 h) (.int .i64 m) (.bool true)
  have hBN : Below w.heap.size w (((w1.alloc (.cells #[.int .i64 s] 3)).alloc (.cells #[.int .i64 0, .slice (some ⟨w1.heap.size, 0, none⟩) 1 1, .int .u32 h, .int .i64 m, .bool true] 27)).setCells (w.heap.size + 1) 0 [.int .i64 0, .slice (some ⟨w1.heap.size, 0, none⟩) 1 1, .int .u32 h, .int .i64 m, .bool true]) := ((((hB2.setCell (p := ⟨w.heap.size + 1, 0, none⟩) (by simp) _).setCell (p := ⟨w.heap.size + 1, 1, none⟩) (by simp) _).setCell (p := ⟨w.heap.size + 1, 2, none⟩) (by simp) _).setCell (p := ⟨w.heap.size + 1, 3, none⟩) (by simp) _).setCell (p := ⟨w.heap.size + 1, 4, none⟩) (by simp) _
  have hsN : Blk (((w1.alloc (.cells #[.int .i64 s] 3)).alloc (.cells #[.int .i64 0, .slice (some ⟨w1.heap.size, 0, none⟩) 1 1, .int .u32 h, .int .i64 m, .bool true] 27)).setCells (w.heap.size + 1) 0 [.int .i64 0, .slice (some ⟨w1.heap.size, 0, none⟩) 1 1, .int .u32 h, .int .i64 m, .bool true]) w1.heap.size 3 #[.int .i64 s] := ((((hs2.far (p := ⟨w.heap.size + 1, 0, none⟩) (by simp; omega) _).far (p := ⟨w.heap.size + 1, 1, none⟩) (by simp; omega) _).far (p := ⟨w.heap.size + 1, 2, none⟩) (by simp; omega) _).far (p := ⟨w.heap.size + 1, 3, none⟩) (by simp; omega) _).far (p := ⟨w.heap.size + 1, 4, none⟩) (by simp; omega) _
  go_wp2_with (first
    | (go_at_call 26; refine (in_yes _ _ _ _ (by omega) (by omega)).mono ?_; rintro e w' ⟨rfl, rfl⟩)
    | (refine wpList_store_mid (by rfl) 27 (.tmp 4) (.tmp 26) (by rfl) (w.heap.size + 1) 0 #[.int .i64 0, .slice (some ⟨w1.heap.size, 0, none⟩) 1 1, .int .u32 h, .int .i64 m, .bool true] (by rfl) (by rfl) hth hif (by simp [Value.oneCell']) ?_))
  refine bodyPost_ret (results_cell_tmp rfl _ rfl (run_loadVar_mid _ _ _ _ [.int .i64 0, .slice (some ⟨w1.heap.size, 0, none⟩) 1 1, .int .u32 h, .int .i64 m, .bool true] _ (fun j v hj => by rw [Nat.zero_add, hzN.cell]; simpa using hj) Tryd.underlying27 rfl hif)) rfl ?_
  exact ⟨_, rfl, hB.size, hsN, hBN⟩

end Go.Proofs.YthbfnppgaaeilaaDoor

namespace Go.Proofs.YthbfnppgaaeilaaDoor
set_option linter.unusedVariables false
open Go.RowKit

theorem good_parts {s h m p b : Int} (hg : goodV s h m p b = true) : (1 ≤ s ∧ s ≤ 65535) ∧ hopV h = true ∧ (0 ≤ m ∧ m ≤ 4294967295) ∧ (0 ≤ b ∧ b ≤ 4294967295) ∧ (0 ≤ p ∧ p ≤ 15) := by
  simp only [goodV, Bool.and_eq_true, inV_iff] at hg
  exact ⟨hg.1.1.1.1, hg.1.1.1.2, hg.1.1.2, hg.1.2, hg.2⟩
theorem worse_eq (m b : Int) (k : Nat) : betterV 0 1 (medV m true) 0 (k + 1) (medV b true) = (decide ((0 : Int) < (k : Int)) || decide (m < b)) := by
  rw [Bool.eq_iff_iff, Bool.or_eq_true, decide_eq_true_iff, decide_eq_true_iff]
  unfold betterV medV
  simp
  omega

end Go.Proofs.YthbfnppgaaeilaaDoor
