/- attr: segment, Bytes. -/
import Derived.Test.YtfnclmacodchfaaAtF
namespace Go.Proofs.Ytfnclmacodchfaa
set_option linter.unusedVariables false
open Go.RowKit

section
variable {α : Type} {R : RK α}
/-- a literal row. -/
theorem rows_lit (w : World) (t : TypeId) (l : List α) (cs : Array Value) (n : Nat) (hn : l.length = n) (hcs : cs.toList = l.flatMap R.cel) {lo : Nat} (hok : ∀ a ∈ l, R.ok w (fun b => lo ≤ b ∧ b < w.heap.size) a) (hm : n ≤ maxLen) :
    Rows R (w.alloc (.cells cs t)) lo w.heap.size t (.slice (some ⟨w.heap.size, 0, none⟩) n n) l := by
  subst hn
  refine ⟨?_, fun a ha => R.more (R.keep (hok a ha) fun p hp => World.cell?_alloc_lt w _ p hp.2) fun b q => ⟨q.1, by simp; omega, ?_⟩⟩
  · have h := Own1.lit (base := w.heap.size) (et := t) (size := R.size) w cs l.length (Nat.le_refl _) hm (by rw [← Array.length_toList, hcs, flat_len])
    rw [hcs] at h
    exact h
  · show some w.heap.size ≠ some b
    intro e
    injection e with e
    have := q.2
    omega
end
def segT (zs : List Int) : List UInt8 := zs.flatMap fun z => be (z % 18446744073709551616) 2
def segL (zs : List Int) : List UInt8 := if zs.length = 0 then [] else [byOf 2, byOf zs.length] ++ segT zs
theorem segT_take (zs : List Int) (k : Nat) (h : k < zs.length) : segT (zs.take (k + 1)) = segT (zs.take k) ++ be (nAt zs k % 18446744073709551616) 2 := by
  unfold segT
  rw [List.take_add_one, List.getElem?_eq_getElem h, nAt_get zs k h, Option.toList_some, List.flatMap_append, List.flatMap_cons, List.flatMap_nil, List.append_nil]
theorem segT_len (zs : List Int) : (segT zs).length = 2 * zs.length := by
  unfold segT
  induction zs with
  | nil => rfl
  | cons z zs ih => rw [List.flatMap_cons, List.length_append, ih, be_len, List.length_cons]; omega
set_option maxHeartbeats 2000000 in
theorem segment_any (w : World) (A : Option Addr) (n c : Nat) (zs : List Int) (h : Nums .i64 w w.heap.size A n zs) (hn : n ≤ 1000) :
    Calls Try.prog 53 #[.slice A n c] w fun e w' => ∃ v, e = .returned v ∧ OwnB w' w.heap.size v (segL zs).length (segL zs) ∧ Below w.heap.size w w' := by
  have hl := h.1
  by_cases hz : n = 0
  · subst hz
    have e : segL zs = [] := if_pos hl
    rw [e]
    clear e
    go_enter Try.func53, Try.ntmps53
    go_wp2_with fail
    go_ret
    exact ⟨_, rfl, OwnB.nil _ _, Below.refl _ _⟩
  have e : segL zs = [byOf 2, byOf n] ++ segT zs := by unfold segL; rw [if_neg (by omega), hl]
  have hnz : ((n : Int) == 0) = false := by rw [beq_eq_false_iff_ne]; omega
  rw [e]
  clear e
  replace hl := Lib.hid hl
  go_enter Try.func53, Try.ntmps53
  go_wp2_with fail
  refine (put8_any w none 0 0 [] 0 Byt.none_ (by omega) (by omega) 2).mono ?_
  rintro e w1 ⟨v1, rfl, own1, hB⟩
  rw [be1_mod, List.nil_append, Nat.zero_add] at own1
  obtain ⟨A1, c1, rfl, _, by1, _⟩ := own1.any
  clear own1
  go_wp2_with fail
  refine (put8_any w1 A1 1 c1 _ _ by1 (Nat.le_refl _) (by omega) (n : Int)).mono ?_
  rintro e w2 ⟨v2, rfl, own2, hb⟩
  rw [be1_mod] at own2
  replace own2 := own2.less hB.size
  replace hB := hB.trans (hb.mono hB.size)
  clear hb by1
  go_wp2_with fail
  go_loopw [3, 5, 15] (fun v _ i wr => ∃ k : Nat, k ≤ n ∧ i = .int .i64 (k : Int) ∧ OwnB wr w.heap.size v (2 + 2 * k) ([byOf 2, byOf n] ++ segT (zs.take k)) ∧ Below w.heap.size w wr) (fun _ _ i _ => n - (intOf i).toNat)
  case atStart => exact ⟨0, Nat.zero_le _, rfl, own2, hB⟩
  case round =>
  clear own2 hB
  obtain ⟨k, hk, rfl, hown, hB⟩ := hrel
  have hzB := hB.size
  by_cases hlt : k < n
  · have hN := h.below hB
    obtain ⟨b, off, rfl, hb, hc⟩ := hN.2.2 (by omega)
    have hck := hc k hlt
    have hki : (k : Int) < n := by omega
    have hst := segT_take zs k (by rw [hl.out]; exact hlt)
    replace hst := Lib.hid hst
    obtain ⟨A3, c3, rfl, _, by3, _⟩ := hown.any
    clear hc
    go_wp2_with fail
    refine (put16_any wr A3 _ c3 _ _ by3 (Nat.le_refl _) (by omega) (nAt zs k)).mono ?_
    rintro e w3 ⟨v3, rfl, own3, hb3⟩
    go_wp2_with fail
    refine ⟨⟨k + 1, by omega, by go_num, ?_, hB.trans (hb3.mono hzB)⟩, by simp [intOf]; omega⟩
    rw [hst.out, ← List.append_assoc, show 2 + 2 * (k + 1) = 2 + 2 * k + 2 by omega]
    exact own3.less hzB
  · obtain rfl : k = n := by omega
    have e2 : (2 + 2 * k) = ([byOf 2, byOf k] ++ segT zs).length := by rw [List.length_append, segT_len, hl.out]; simp
    rw [List.take_of_length_le (by rw [hl.out]; omega), e2] at hown
    replace e2 := Lib.hid e2
    go_wp2_with fail
    go_ret
    exact ⟨_, rfl, hown, hB⟩
def joinD (ds : List RawD) : List UInt8 := ds.flatMap fun d => oneL d.1 d.2.1 d.2.2
theorem joinL_dat (rs : List RawV) : joinL rs = joinD (rs.map dat) := by
  unfold joinL joinD
  rw [List.flatMap_map]
  rfl
def attrsD (o : Int) (zs : List Int) (h m : Int) (b : Bool) : List RawD := [(64, 1, [byOf o]), (64, 2, segL zs), (64, 3, be h 4)] ++ if b then [(128, 4, be (m % 4294967296) 4)] else []
def attrsB (o : Int) (zs : List Int) (h m : Int) (b : Bool) : List UInt8 := if goodA o zs h m b = true then joinD (attrsD o zs h m b) else []
end Go.Proofs.Ytfnclmacodchfaa
