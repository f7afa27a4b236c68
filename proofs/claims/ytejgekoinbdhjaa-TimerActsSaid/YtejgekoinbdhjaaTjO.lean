/- timer: slices.DeleteFunc with sweep's test. -/
import Derived.Test.YtejgekoinbdhjaaTjN
namespace Go.Proofs.Ytejgekoinbdhjaa
set_option linter.unusedVariables false
open Go Go.RowKit Go.Maps

def inA (A : List Slo) (H : List Slo) : List Slo := H.filter fun s => decide (s ∈ A)
theorem inA_all {A H : List Slo} (h : ∀ s ∈ H, s ∈ A) : inA A H = H := List.filter_eq_self.2 fun s hs => by simpa using h s hs
theorem inA_step {A H : List Slo} {k : Nat} {s : Slo} (hk : H[k]? = some s) : inA A (H.take (k + 1)) = inA A (H.take k) ++ (if s ∈ A then [s] else []) := by
  unfold inA
  rw [List.take_add_one, hk, List.filter_append]
  by_cases h : s ∈ A <;> simp [h]
theorem inA_len (A H : List Slo) (k : Nat) : (inA A (H.take k)).length ≤ k := by
  unfold inA
  have := List.length_filter_le (fun s => decide (s ∈ A)) (H.take k)
  rw [List.length_take] at this
  omega
section
variable {w : World} {a : Act} {o : Oper} {ops : Array Oper} {rest : List Oper} {Q : Exit → Act → World → Prop}
theorem wpList_clear (hgd : o.guard = none) (x : Operand) (ho : o.op = .call { callee := .builtin .clear, args := #[x], argTypes := #[99] }) {r cap n i c2 : Nat} {H : List Slo} (h : Rows sloK w 0 0 198 (.slice (some ⟨r, 0, none⟩) n cap) H) (hi : i ≤ n) (hx : a.eval x = .slice (some ⟨r, i * 3, none⟩) (n - i) c2)
    (hK : ∀ w', Rows sloK w' 0 0 198 (.slice (some ⟨r, 0, none⟩) i cap) (H.take i) → w.grownBy w' (some r) → wpList Try.prog ops Q rest (a.put o.dst (.tuple #[])) w') : wpList Try.prog ops Q (o :: rest) a w := by
  obtain ⟨w', hrun, h1, h2⟩ := run_clear h hi c2 o.type
  refine wpList_plain hgd fun K hK' => ?_
  unfold Oper.wp
  simp [execOp, ho, resolve, invoke, builtin, hx, hrun, Result.andThen]
  exact hK' _ _ (hK w' h1 h2)
end
set_option maxRecDepth 100000 in
set_option maxHeartbeats 8000000 in
theorem deleteF_any (w : World) (g b pb r cap n : Nat) (mo no co : Int) (A H : List Slo) (h : TabV w g b mo no co (.slice (some ⟨r, 0, none⟩) n cap) A H) (hp : Blk w pb 90 #[.pointer (some ⟨g, 0, none⟩)]) (hpr : pb ≠ r) (hok : ∀ s ∈ H, SloOk s) (hn : n ≤ 1000000) :
    Calls Try.prog 175 #[.slice (some ⟨r, 0, none⟩) n cap, .func (.func 176) #[] #[.pointer (some ⟨pb, 0, none⟩)]] w fun e w' => ∃ m : Nat, e = .returned (.slice (some ⟨r, 0, none⟩) m cap) ∧ m ≤ n ∧ Rows sloK w' 0 0 198 (.slice (some ⟨r, 0, none⟩) m cap) (inA A H) ∧ Chg w w' (fun k => k = r) := by
  have hHn := row_len h.row
  have hS : Seen sloK w (fun b => b < w.heap.size) (some ⟨r, 0, none⟩) n H := by
    obtain ⟨A9, c9, e9, -, -, h9⟩ := h.row.seen (Nat.le_refl _)
    injection e9 with e1 e2 e3
    rw [← e1, hHn] at h9
    exact h9.more fun b q => q.2
  replace hHn := Lib.hid hHn
  go_enter Try.func175, Try.ntmps175
  go_upto_region 2 with (go_at_call 190; refine (indexF_any w g b pb mo no co _ A H h hp hok (some ⟨r, 0, none⟩) n cap hS hn).mono ?_; rintro e w1 ⟨i, rfl, hB1, hi⟩)
  rcases hi with ⟨rfl, hall⟩ | ⟨k, rfl, hk, ht, hnk⟩
  · have hT1 := h.nx hB1
    replace hall := Lib.hid hall
    go_wp2_with fail
    go_ret
    exact ⟨n, rfl, Nat.le_refl _, by rw [inA_all hall.out]; exact hT1.row, Chg.of_below hB1⟩
  have d1 : ((k : Int) == -1) = false := by simp
  have kw : IntKind.i64.wrap ((k : Int) + 1) = (k : Int) + 1 := IntWalk.i64_in _ (by omega)
  replace ht := Lib.hid ht
  replace hnk := Lib.hid hnk
  have hT1 := h.nx hB1
  have hp1 := hp.below hB1 hp.lt
  have hs0 : H.take k = inA A (H.take (k + 1)) := by
    have hkl : k < H.length := by rw [hHn.out]; exact hk
    rw [inA_step (List.getElem?_eq_getElem hkl), if_neg (hnk.out _ (List.getElem?_eq_getElem hkl)), List.append_nil, inA_all ht.out]
  have hz1 := hB1.size
  have hC1 : Chg w w1 (fun q => q = r) := Chg.of_below hB1
  clear h hp hB1 hS
  go_wp2_with fail
  go_loopw [5, 6] (fun iv jv wr => ∃ (i j : Nat) (H' : List Slo), iv = .int .i64 (i : Int) ∧ jv = .int .i64 (j : Int) ∧ i < j ∧ j ≤ n ∧ TabV wr g b mo no co (.slice (some ⟨r, 0, none⟩) n cap) A H' ∧ H'.take i = inA A (H.take j) ∧ H'.drop j = H.drop j ∧ Chg w wr (fun q => q = r) ∧ Blk wr pb 90 #[.pointer (some ⟨g, 0, none⟩)]) (fun _ j _ => n - (intOf j).toNat)
  case atStart => exact ⟨k, k + 1, H, rfl, by go_num, by omega, by omega, hT1, hs0, rfl, hC1, hp1⟩
  case round =>
  clear hT1 hp1 hC1 hs0
  generalize wr = wo at *
  obtain ⟨i, j, H', rfl, rfl, hij, hjn, hT, hti, hdj, hC, hpo⟩ := hrel
  have hlen := row_len hT.row
  replace hti := Lib.hid hti
  replace hdj := Lib.hid hdj
  replace hlen := Lib.hid hlen
  by_cases hlt : j < n
  · have hx : H'[j]? = some (H'[j]'(by rw [hlen.out]; exact hlt)) := List.getElem?_eq_getElem _
    generalize H'[j]'(by rw [hlen.out]; exact hlt) = x at hx
    have hxH : H[j]? = some x := by
      have h1 : (H'.drop j)[0]? = some x := by rw [List.getElem?_drop]; exact hx
      rw [hdj.out, List.getElem?_drop] at h1
      exact h1
    have hsok := hok x (List.mem_of_getElem? hxH)
    have hst := inA_step (A := A) hxH
    have hdn : H'.drop (j + 1) = H.drop (j + 1) := by
      have h1 := congrArg (List.drop 1) hdj.out
      rw [List.drop_drop, List.drop_drop] at h1
      exact h1
    obtain ⟨x0, x1, x2⟩ := slo_at hT.row hx hlt
    have hji : (j : Int) < n := by omega
    have ltr : r < wo.heap.size := by obtain ⟨_, q | ⟨g', c', u', e', hb', _⟩⟩ := hT.row.1; · cases q.1
                                      · injection e' with e'; injection e' with e'; injection e' with e'; rw [e']; exact (hT.row.1.lt g' (by rw [e']; rfl)).2
    have hB2 := (Below.refl wo.heap.size wo).alloc (Nat.le_refl _) (.cells #[.int .i64 x.id, .int .i64 x.ex, .int .i64 x.od] 198)
    have hq2 := Blk.new wo 198 #[.int .i64 x.id, .int .i64 x.ex, .int .i64 x.od]
    have hT2 := hT.nx hB2
    have hp2 := hpo.below hB2 hpo.lt
    have hC2 := hC.trans (Chg.of_below (X := fun _ => False) hB2) (fun _ _ q => q.elim)
    replace hst := Lib.hid hst
    replace hdn := Lib.hid hdn
    replace hxH := Lib.hid hxH
    replace hx := Lib.hid hx
    go_upto_region 8 with (fail)
    clear x0 x1 x2
    have hwx : r < wo.heap.size := ltr
    generalize wo.alloc (.cells #[.int .i64 x.id, .int .i64 x.ex, .int .i64 x.od] 198) = w2 at *
    have e0 : w2.cell? ⟨wo.heap.size, 0, none⟩ = some (.int .i64 x.id) := hq2.cellv 0 rfl
    have e1 : w2.cell? ⟨wo.heap.size, 1, none⟩ = some (.int .i64 x.ex) := hq2.cellv 1 rfl
    have e2 : w2.cell? ⟨wo.heap.size, 2, none⟩ = some (.int .i64 x.od) := hq2.cellv 2 rfl
    have ltx := hq2.lt
    have hz2 := hB2.size
    by_cases hxA : x ∈ A
    · have hd : decide (x ∉ A) = false := by simpa using hxA
      replace hd := Lib.hid hd
      replace hst := Lib.hid (show inA A (H.take (j + 1)) = inA A (H.take j) ++ [x] by rw [hst.out, if_pos hxA])
      go_upto_region 9 with (go_at_call 176; refine (sweep1_any w2 g b pb mo no co _ A H' hT2 hp2 x hsok).mono ?_; rw [hd.out]; rintro e w3 ⟨rfl, hB3⟩)
      have hT3 := hT2.nx hB3
      have hp3 := hp2.below hB3 hp2.lt
      have hq3 := hq2.below hB3 hq2.lt
      have hC3 := hC2.trans (Chg.of_below (X := fun _ => False) hB3) (fun _ _ q => q.elim)
      have hin : i < n := by omega
      have hiH : i < H'.length := by rw [hlen.out]; exact hin
      obtain ⟨u0, u1, u2⟩ := slo_at hT3.row (List.getElem?_eq_getElem hiH) hin
      obtain ⟨hR4, hg4⟩ := slo_set hT3.row hin x
      have hT4 := hT3.put hR4 hg4
      have hC4 := hC3.trans (Chg.of_grown (X := fun q => q = r) hg4 rfl) (fun _ _ q => q)
      have hp4 := (Chg.of_grown (X := fun q => q = r) hg4 rfl).blk hp3 hpr
      have hfr := slo_free hT3.row
      have f0 : w3.cell? ⟨wo.heap.size, 0, none⟩ = some (.int .i64 x.id) := hq3.cellv 0 rfl
      have f1 : w3.cell? ⟨wo.heap.size, 1, none⟩ = some (.int .i64 x.ex) := hq3.cellv 1 rfl
      have f2 : w3.cell? ⟨wo.heap.size, 2, none⟩ = some (.int .i64 x.od) := hq3.cellv 2 rfl
      have ltx3 := hq3.lt
      have hz3 := hB3.size
      have ltr3 : r < w3.heap.size := by omega
      have hii : (i : Int) < n := by omega
      have kwi : IntKind.i64.wrap ((i : Int) + 1) = (i : Int) + 1 := IntWalk.i64_in _ (by omega)
      have kwj : IntKind.i64.wrap ((j : Int) + 1) = (j : Int) + 1 := IntWalk.i64_in _ (by omega)
      have htk : (H'.set i x).take (i + 1) = inA A (H.take (j + 1)) := by
        rw [hst.out, ← hti.out, List.take_add_one, List.take_set_of_le (Nat.le_refl _), List.getElem?_set_self hiH]
        rfl
      have hdk : (H'.set i x).drop (j + 1) = H.drop (j + 1) := by rw [List.drop_set_of_lt (by omega), hdn.out]
      replace htk := Lib.hid htk
      replace hdk := Lib.hid hdk
      replace hT4 := Lib.hid hT4
      replace hC4 := Lib.hid hC4
      replace hp4 := Lib.hid hp4
      clear hR4 hg4 e0 e1 e2 hT2 hT3 hT
      go_wp2_with fail
      exact ⟨⟨i + 1, j + 1, H'.set i x, by go_num, by go_num, by omega, by omega, hT4.out, htk.out, hdk.out, hC4.out, hp4.out⟩, by simp [intOf]; omega⟩
    · have hd : decide (x ∉ A) = true := by simpa using hxA
      replace hd := Lib.hid hd
      replace hst := Lib.hid (show inA A (H.take (j + 1)) = inA A (H.take j) by rw [hst.out, if_neg hxA, List.append_nil])
      have kwj : IntKind.i64.wrap ((j : Int) + 1) = (j : Int) + 1 := IntWalk.i64_in _ (by omega)
      go_wp2_with (go_at_call 176; refine (sweep1_any w2 g b pb mo no co _ A H' hT2 hp2 x hsok).mono ?_; rw [hd.out]; rintro e w3 ⟨rfl, hB3⟩)
      exact ⟨⟨i, j + 1, H', rfl, by go_num, by omega, by omega, hT2.nx hB3, by rw [hti.out, hst.out], hdn.out, hC2.trans (Chg.of_below (X := fun _ => False) hB3) (fun _ _ q => q.elim), hp2.below hB3 hp2.lt⟩, by simp [intOf]; omega⟩
  · obtain rfl : j = n := by omega
    have hcap : j ≤ cap := by
      obtain ⟨A9, c9, e9, q9, -⟩ := hT.row.seen (Nat.le_refl _)
      injection e9 with e1 e2 e3
      have h6 : H'.length = j := hlen.out
      have h7 : cap = c9 := by first | exact e3 | exact e3.1
      rw [h7]
      exact Nat.le_trans (Nat.le_of_eq h6.symm) q9
    have hic : i < cap := by omega
    have hT9 := hT.row
    have hle : i ≤ j := by omega
    go_wp2_with (refine wpList_clear rfl (.tmp 38) rfl hT9 hle rfl ?_; intro w7 hR7 hg7)
    go_ret
    rw [hti.out, List.take_of_length_le (by rw [hHn.out]; exact Nat.le_refl _)] at hR7
    exact ⟨i, rfl, hle, hR7, hC.trans (Chg.of_grown (X := fun q => q = r) hg7 rfl) (fun _ _ q => q)⟩
end Go.Proofs.Ytejgekoinbdhjaa
