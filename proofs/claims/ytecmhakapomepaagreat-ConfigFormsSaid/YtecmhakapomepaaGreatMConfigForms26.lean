import Derived.Test.YtecmhakapomepaaGreatMConfigForms21
import Derived.Test.YtecmhakapomepaaGreatMConfigForms25
import Derived.Test.YtecmhakapomepaaGreatMConfigForms2
/- config: the writer's bytes grow. -/
namespace Go.Proofs.YtecmhakapomepaaGreat
set_option linter.unusedVariables false
open Go Go.RowKit

theorem be_32 (x : Int) : be (x % 4294967296) 4 = be (x % 18446744073709551616) 4 := by
  have h : ∀ k, k ≤ 3 → byOf ((x % 4294967296) / 2 ^ (8 * k)) = byOf ((x % 18446744073709551616) / 2 ^ (8 * k)) := by
    intro k hk
    unfold byOf
    congr 2
    have : k = 0 ∨ k = 1 ∨ k = 2 ∨ k = 3 := by omega
    rcases this with rfl | rfl | rfl | rfl <;> omega
  simp only [be]
  rw [h 0 (by omega), h 1 (by omega), h 2 (by omega), h 3 (by omega)]
/-- block g is a writer, its bytes in blocks behind it. -/
def Wr (w : World) (g : Nat) (l : List UInt8) : Prop :=
  ∃ A n c, Blk w g 85 #[.slice A n c] ∧ OwnB w (g + 1) (.slice A n c) l.length l
theorem Wr.lt {w : World} {g : Nat} {l : List UInt8} (h : Wr w g l) : g < w.heap.size := by obtain ⟨A, n, c, h, _⟩ := h; exact h.lt
theorem Wr.below {w w' : World} {g : Nat} {l : List UInt8} (h : Wr w g l) (hb : Below w.heap.size w w') : Wr w' g l := by
  obtain ⟨A, n, c, h1, h2⟩ := h
  exact ⟨A, n, c, h1.below hb h1.lt, h2.below hb⟩
theorem Wr.alloc {w : World} {g : Nat} {l : List UInt8} (h : Wr w g l) (o : Obj) : Wr (w.alloc o) g l := h.below ((Below.refl _ _).alloc (Nat.le_refl _) o)
theorem ownB_apart {w : World} {base n g : Nat} {v : Value} {l : List UInt8} (h : OwnB w base v n l) (hg : g < base) : v.ownBlock = none ∨ v.ownBlock ≠ some g := by
  rcases h.2 with ⟨q, _⟩ | ⟨gg, _, _, q, hq, _⟩ <;> rw [q] <;> simp [Value.ownBlock]
  omega
theorem ownB_less {w : World} {base base' n : Nat} {v : Value} {l : List UInt8} (h : OwnB w base v n l) (hle : base' ≤ base) : OwnB w base' v n l := by
  refine ⟨h.1, ?_⟩
  rcases h.2 with h0 | ⟨g2, cap, cur, q1, q2, q3⟩
  · exact .inl h0
  · exact .inr ⟨g2, cap, cur, q1, by omega, q3⟩
/-- ints as cells. -/
def ivs (zs : List Int) : Array Value := (zs.map fun z => Value.int .i64 z).toArray
theorem ivs_at {w : World} {z k : Nat} {zs : List Int} {x : Int} (h : Blk w z 3 (ivs zs)) (hk : zs[k]? = some x) : w.cell? ⟨z, k, none⟩ = some (.int .i64 x) :=
  h.cellv k (by simp [ivs, hk])
set_option maxRecDepth 100000 in
set_option maxHeartbeats 4000000 in
theorem n8_any (w : World) (g : Nat) (l : List UInt8) (z : Nat) (zs : List Int) (hW : Wr w g l) (hZ : Blk w z 3 (ivs zs)) (hne : z ≠ g) (hlen : zs.length ≤ 10) (hl : l.length ≤ 1000000) :
    Calls Tryz.prog 38 #[.pointer (some ⟨g, 0, none⟩), .slice (some ⟨z, 0, none⟩) zs.length zs.length] w fun e w' => e = .returned (.tuple #[]) ∧ Wr w' g (l ++ zs.flatMap (bz · 1)) ∧ w.grownBy w' (some g) := by
  obtain ⟨m, hm⟩ : ∃ m, m = zs.length := ⟨_, rfl⟩
  rw [← hm] at hlen ⊢
  replace hm := Lib.hid hm
  go_enter Tryz.func38, Tryz.ntmps38
  go_wp2_with fail
  go_loopw [5, 8] (fun _ i wr => ∃ j : Nat, j ≤ m ∧ i = .int .i64 (j : Int) ∧ Wr wr g (l ++ (zs.take j).flatMap (bz · 1)) ∧ w.grownBy wr (some g)) (fun _ i _ => m - (intOf i).toNat)
  case atStart => exact ⟨0, Nat.zero_le _, rfl, by simpa using hW, grown_refl _ _⟩
  case round =>
  obtain ⟨j, hj, rfl, hWj, hg⟩ := hrel
  have hzr := hg.size
  by_cases hlt : j < m
  · have hji : (j : Int) < m := by omega
    have hj10 : (j : Int) ≤ 10 := by omega
    obtain ⟨x, hx⟩ : ∃ x, zs[j]? = some x := ⟨_, List.getElem?_eq_getElem (by have := hm.out; omega)⟩
    have hZr := hZ.grown hg (by simp; omega)
    have hc := ivs_at hZr hx
    have hstep := Lib.hid (flat_next (f := (bz · 1)) hx)
    obtain ⟨l1, hl1⟩ : ∃ l1, l1 = l ++ (zs.take j).flatMap (bz · 1) := ⟨_, rfl⟩
    have hlen1 : l1.length ≤ 1000040 := by
      rw [hl1, List.length_append]
      have h1 := flat_len_le (f := (bz · 1)) (m := 1) (L := zs.take j) fun a _ => by rw [bz_len]; exact Nat.le_refl _
      have h2 : (zs.take j).length ≤ 10 := by rw [List.length_take]; omega
      omega
    rw [← hl1] at hWj
    replace hl1 := Lib.hid hl1
    obtain ⟨A, n, c, hb1, hown⟩ := hWj
    have hlen2 := hown.len
    obtain ⟨A', c', e1, -, -, hby, -⟩ := hown.any2
    injection e1 with e1 e2 e3
    subst e1; subst e2; subst e3
    obtain ⟨n, hn⟩ : ∃ n, n = l1.length := ⟨_, rfl⟩
    rw [← hn] at hlen1 hb1 hown hby
    replace hn := Lib.hid hn
    have zlt := hZr.lt
    have w0 := hb1.cellv 0 (v := .slice A n c) rfl
    have wlt := hb1.lt
    go_wp2_with fail
    refine (put8_any wr A n c l1 wr.heap.size hby (Nat.le_refl _) (by omega) x).mono ?_
    rintro e w2 ⟨v, rfl, hown2, hb2⟩
    have hb1' := hb1.below hb2 hb1.lt
    have s0 := hb1'.cellv 0 (v := .slice A n c) rfl
    have f0 := hb1'.frozen 0
    have slt := hb1'.lt
    obtain ⟨A2, c2, rfl, -, -, hby2, hlo2⟩ := hown2.any2
    obtain ⟨so1, so2⟩ := blk_store hb1' 0 (.slice A2 (n + 1) c2)
    have hap := ownB_apart hown2 wlt
    have hown3 := ownB_less (hown2.kept so2 hap) wlt
    have hg2 : w.grownBy (w2.setCell ⟨g, 0, none⟩ (.slice A2 (n + 1) c2)) (some g) := grown_trans hg (grown_trans (grown_of_below hb2 (Nat.le_refl _) _) so2)
    clear w0 wlt hc zlt so2 hap
    have hL : (l1 ++ bz x 1).length = n + 1 := by rw [List.length_append, bz_len, ← hn.out]
    go_wp2_with fail
    generalize w2.setCell ⟨g, 0, none⟩ (.slice A2 (n + 1) c2) = w5 at *
    refine ⟨⟨j + 1, by omega, by go_num, ?_, hg2⟩, by simp [intOf]; omega⟩
    rw [hstep.out, ← List.append_assoc, ← hl1.out]
    exact ⟨A2, n + 1, c2, so1, by rw [show (l1 ++ (fun x => bz x 1) x).length = n + 1 from hL]; exact hown3⟩
  · obtain rfl : j = m := by omega
    go_wp2_with fail
    go_end0
    rw [List.take_of_length_le (Nat.le_of_eq hm.out.symm)] at hWj
    exact ⟨rfl, hWj, hg⟩
set_option maxRecDepth 100000 in
set_option maxHeartbeats 4000000 in
theorem n16_any (w : World) (g : Nat) (l : List UInt8) (z : Nat) (zs : List Int) (hW : Wr w g l) (hZ : Blk w z 3 (ivs zs)) (hne : z ≠ g) (hlen : zs.length ≤ 10) (hl : l.length ≤ 1000000) :
    Calls Tryz.prog 36 #[.pointer (some ⟨g, 0, none⟩), .slice (some ⟨z, 0, none⟩) zs.length zs.length] w fun e w' => e = .returned (.tuple #[]) ∧ Wr w' g (l ++ zs.flatMap (bz · 2)) ∧ w.grownBy w' (some g) := by
  obtain ⟨m, hm⟩ : ∃ m, m = zs.length := ⟨_, rfl⟩
  rw [← hm] at hlen ⊢
  replace hm := Lib.hid hm
  go_enter Tryz.func36, Tryz.ntmps36
  go_wp2_with fail
  go_loopw [5, 8] (fun _ i wr => ∃ j : Nat, j ≤ m ∧ i = .int .i64 (j : Int) ∧ Wr wr g (l ++ (zs.take j).flatMap (bz · 2)) ∧ w.grownBy wr (some g)) (fun _ i _ => m - (intOf i).toNat)
  case atStart => exact ⟨0, Nat.zero_le _, rfl, by simpa using hW, grown_refl _ _⟩
  case round =>
  obtain ⟨j, hj, rfl, hWj, hg⟩ := hrel
  have hzr := hg.size
  by_cases hlt : j < m
  · have hji : (j : Int) < m := by omega
    have hj10 : (j : Int) ≤ 10 := by omega
    obtain ⟨x, hx⟩ : ∃ x, zs[j]? = some x := ⟨_, List.getElem?_eq_getElem (by have := hm.out; omega)⟩
    have hZr := hZ.grown hg (by simp; omega)
    have hc := ivs_at hZr hx
    have hstep := Lib.hid (flat_next (f := (bz · 2)) hx)
    obtain ⟨l1, hl1⟩ : ∃ l1, l1 = l ++ (zs.take j).flatMap (bz · 2) := ⟨_, rfl⟩
    have hlen1 : l1.length ≤ 1000040 := by
      rw [hl1, List.length_append]
      have h1 := flat_len_le (f := (bz · 2)) (m := 2) (L := zs.take j) fun a _ => by rw [bz_len]; exact Nat.le_refl _
      have h2 : (zs.take j).length ≤ 10 := by rw [List.length_take]; omega
      omega
    rw [← hl1] at hWj
    replace hl1 := Lib.hid hl1
    obtain ⟨A, n, c, hb1, hown⟩ := hWj
    have hlen2 := hown.len
    obtain ⟨A', c', e1, -, -, hby, -⟩ := hown.any2
    injection e1 with e1 e2 e3
    subst e1; subst e2; subst e3
    obtain ⟨n, hn⟩ : ∃ n, n = l1.length := ⟨_, rfl⟩
    rw [← hn] at hlen1 hb1 hown hby
    replace hn := Lib.hid hn
    have zlt := hZr.lt
    have w0 := hb1.cellv 0 (v := .slice A n c) rfl
    have wlt := hb1.lt
    go_wp2_with fail
    refine (put16_any wr A n c l1 wr.heap.size hby (Nat.le_refl _) (by omega) x).mono ?_
    rintro e w2 ⟨v, rfl, hown2, hb2⟩
    have hb1' := hb1.below hb2 hb1.lt
    have s0 := hb1'.cellv 0 (v := .slice A n c) rfl
    have f0 := hb1'.frozen 0
    have slt := hb1'.lt
    obtain ⟨A2, c2, rfl, -, -, hby2, hlo2⟩ := hown2.any2
    obtain ⟨so1, so2⟩ := blk_store hb1' 0 (.slice A2 (n + 2) c2)
    have hap := ownB_apart hown2 wlt
    have hown3 := ownB_less (hown2.kept so2 hap) wlt
    have hg2 : w.grownBy (w2.setCell ⟨g, 0, none⟩ (.slice A2 (n + 2) c2)) (some g) := grown_trans hg (grown_trans (grown_of_below hb2 (Nat.le_refl _) _) so2)
    clear w0 wlt hc zlt so2 hap
    have hL : (l1 ++ bz x 2).length = n + 2 := by rw [List.length_append, bz_len, ← hn.out]
    go_wp2_with fail
    generalize w2.setCell ⟨g, 0, none⟩ (.slice A2 (n + 2) c2) = w5 at *
    refine ⟨⟨j + 1, by omega, by go_num, ?_, hg2⟩, by simp [intOf]; omega⟩
    rw [hstep.out, ← List.append_assoc, ← hl1.out]
    exact ⟨A2, n + 2, c2, so1, by rw [show (l1 ++ (fun x => bz x 2) x).length = n + 2 from hL]; exact hown3⟩
  · obtain rfl : j = m := by omega
    go_wp2_with fail
    go_end0
    rw [List.take_of_length_le (Nat.le_of_eq hm.out.symm)] at hWj
    exact ⟨rfl, hWj, hg⟩
set_option maxRecDepth 100000 in
set_option maxHeartbeats 4000000 in
theorem n32_any (w : World) (g : Nat) (l : List UInt8) (z : Nat) (zs : List Int) (hW : Wr w g l) (hZ : Blk w z 3 (ivs zs)) (hne : z ≠ g) (hlen : zs.length ≤ 10) (hl : l.length ≤ 1000000) :
    Calls Tryz.prog 37 #[.pointer (some ⟨g, 0, none⟩), .slice (some ⟨z, 0, none⟩) zs.length zs.length] w fun e w' => e = .returned (.tuple #[]) ∧ Wr w' g (l ++ zs.flatMap (bz · 4)) ∧ w.grownBy w' (some g) := by
  obtain ⟨m, hm⟩ : ∃ m, m = zs.length := ⟨_, rfl⟩
  rw [← hm] at hlen ⊢
  replace hm := Lib.hid hm
  go_enter Tryz.func37, Tryz.ntmps37
  go_wp2_with fail
  go_loopw [5, 8] (fun _ i wr => ∃ j : Nat, j ≤ m ∧ i = .int .i64 (j : Int) ∧ Wr wr g (l ++ (zs.take j).flatMap (bz · 4)) ∧ w.grownBy wr (some g)) (fun _ i _ => m - (intOf i).toNat)
  case atStart => exact ⟨0, Nat.zero_le _, rfl, by simpa using hW, grown_refl _ _⟩
  case round =>
  obtain ⟨j, hj, rfl, hWj, hg⟩ := hrel
  have hzr := hg.size
  by_cases hlt : j < m
  · have hji : (j : Int) < m := by omega
    have hj10 : (j : Int) ≤ 10 := by omega
    obtain ⟨x, hx⟩ : ∃ x, zs[j]? = some x := ⟨_, List.getElem?_eq_getElem (by have := hm.out; omega)⟩
    have hZr := hZ.grown hg (by simp; omega)
    have hc := ivs_at hZr hx
    have hstep := Lib.hid (flat_next (f := (bz · 4)) hx)
    obtain ⟨l1, hl1⟩ : ∃ l1, l1 = l ++ (zs.take j).flatMap (bz · 4) := ⟨_, rfl⟩
    have hlen1 : l1.length ≤ 1000040 := by
      rw [hl1, List.length_append]
      have h1 := flat_len_le (f := (bz · 4)) (m := 4) (L := zs.take j) fun a _ => by rw [bz_len]; exact Nat.le_refl _
      have h2 : (zs.take j).length ≤ 10 := by rw [List.length_take]; omega
      omega
    rw [← hl1] at hWj
    replace hl1 := Lib.hid hl1
    obtain ⟨A, n, c, hb1, hown⟩ := hWj
    have hlen2 := hown.len
    obtain ⟨A', c', e1, -, -, hby, -⟩ := hown.any2
    injection e1 with e1 e2 e3
    subst e1; subst e2; subst e3
    obtain ⟨n, hn⟩ : ∃ n, n = l1.length := ⟨_, rfl⟩
    rw [← hn] at hlen1 hb1 hown hby
    replace hn := Lib.hid hn
    have zlt := hZr.lt
    have w0 := hb1.cellv 0 (v := .slice A n c) rfl
    have wlt := hb1.lt
    go_wp2_with fail
    refine (put32_any wr A n c l1 wr.heap.size hby (Nat.le_refl _) (by omega) (x % 4294967296) (by omega) (by omega)).mono ?_
    rintro e w2 ⟨v, rfl, hown2, hb2⟩
    rw [be_32] at hown2
    have hb1' := hb1.below hb2 hb1.lt
    have s0 := hb1'.cellv 0 (v := .slice A n c) rfl
    have f0 := hb1'.frozen 0
    have slt := hb1'.lt
    obtain ⟨A2, c2, rfl, -, -, hby2, hlo2⟩ := hown2.any2
    obtain ⟨so1, so2⟩ := blk_store hb1' 0 (.slice A2 (n + 4) c2)
    have hap := ownB_apart hown2 wlt
    have hown3 := ownB_less (hown2.kept so2 hap) wlt
    have hg2 : w.grownBy (w2.setCell ⟨g, 0, none⟩ (.slice A2 (n + 4) c2)) (some g) := grown_trans hg (grown_trans (grown_of_below hb2 (Nat.le_refl _) _) so2)
    clear w0 wlt hc zlt so2 hap
    have hL : (l1 ++ bz x 4).length = n + 4 := by rw [List.length_append, bz_len, ← hn.out]
    go_wp2_with fail
    generalize w2.setCell ⟨g, 0, none⟩ (.slice A2 (n + 4) c2) = w5 at *
    refine ⟨⟨j + 1, by omega, by go_num, ?_, hg2⟩, by simp [intOf]; omega⟩
    rw [hstep.out, ← List.append_assoc, ← hl1.out]
    exact ⟨A2, n + 4, c2, so1, by rw [show (l1 ++ (fun x => bz x 4) x).length = n + 4 from hL]; exact hown3⟩
  · obtain rfl : j = m := by omega
    go_wp2_with fail
    go_end0
    rw [List.take_of_length_le (Nat.le_of_eq hm.out.symm)] at hWj
    exact ⟨rfl, hWj, hg⟩
end Go.Proofs.YtecmhakapomepaaGreat

/- config: the readers of one thing. -/
namespace Go.Proofs.YtecmhakapomepaaGreat
set_option linter.unusedVariables false
open Go Go.RowKit

def fnB (f : Nat) (gs : Nat) : Value := .func (.func f) #[.pointer (some ⟨gs, 0, none⟩)] #[]
def fnC (f : Nat) (g4 : Nat) : Value := .func (.func f) #[] #[.pointer (some ⟨g4, 0, none⟩)]
/-- the parser's variables. -/
structure PEnv (w : World) (gs g4 g5 g6 g7 g8 : Nat) : Prop where
  s4 : Blk w g4 57 #[.pointer (some ⟨gs, 0, none⟩)]
  n8 : Blk w g5 56 #[.func (.func 17) #[.pointer (some ⟨gs, 0, none⟩)] #[]]
  n16 : Blk w g6 56 #[.func (.func 18) #[.pointer (some ⟨gs, 0, none⟩)] #[]]
  ad : Blk w g7 59 #[.func (.func 19) #[.pointer (some ⟨gs, 0, none⟩)] #[]]
  n32 : Blk w g8 56 #[.func (.func 20) #[] #[.pointer (some ⟨g4, 0, none⟩)]]
  ne : gs < g4 ∧ gs < g5 ∧ gs < g6 ∧ gs < g7 ∧ gs < g8
theorem PEnv.grown {w w' : World} {gs g4 g5 g6 g7 g8 : Nat} (h : PEnv w gs g4 g5 g6 g7 g8) (hg : w.grownBy w' (some gs)) : PEnv w' gs g4 g5 g6 g7 g8 := by
  obtain ⟨h1, h2, h3, h4, h5, n1, n2, n3, n4, n5⟩ := h
  exact ⟨h1.grown hg (by simp; omega), h2.grown hg (by simp; omega), h3.grown hg (by simp; omega), h4.grown hg (by simp; omega), h5.grown hg (by simp; omega), n1, n2, n3, n4, n5⟩
theorem PEnv.below {w w' : World} {gs g4 g5 g6 g7 g8 : Nat} (h : PEnv w gs g4 g5 g6 g7 g8) (hb : Below w.heap.size w w') : PEnv w' gs g4 g5 g6 g7 g8 :=
  ⟨h.s4.below hb h.s4.lt, h.n8.below hb h.n8.lt, h.n16.below hb h.n16.lt, h.ad.below hb h.ad.lt, h.n32.below hb h.n32.lt, h.ne⟩
theorem PEnv.alloc {w : World} {gs g4 g5 g6 g7 g8 : Nat} (h : PEnv w gs g4 g5 g6 g7 g8) (o : Obj) : PEnv (w.alloc o) gs g4 g5 g6 g7 g8 := h.below ((Below.refl _ _).alloc (Nat.le_refl _) o)
theorem u8P (w : World) (g : Nat) (s : St) (h : Src w g s) : Calls Tryz.prog 17 #[.pointer (some ⟨g, 0, none⟩)] w fun e w' => e = .returned (.int .i64 (numV s 1)) ∧ Src w' g (nx s 1) ∧ w.grownBy w' (some g) := u8_any w g s h
theorem u16P (w : World) (g : Nat) (s : St) (h : Src w g s) : Calls Tryz.prog 18 #[.pointer (some ⟨g, 0, none⟩)] w fun e w' => e = .returned (.int .i64 (numV s 2)) ∧ Src w' g (nx s 2) ∧ w.grownBy w' (some g) := u16_any w g s h
theorem u32P (w : World) (g : Nat) (s : St) (h : Src w g s) : Calls Tryz.prog 19 #[.pointer (some ⟨g, 0, none⟩)] w fun e w' => e = .returned (.int .u32 (numV s 4)) ∧ Src w' g (nx s 4) ∧ w.grownBy w' (some g) := u32_any w g s h
set_option maxHeartbeats 1000000 in
theorem n32P (w : World) (g g4 : Nat) (s : St) (h : Src w g s) (h4 : Blk w g4 57 #[.pointer (some ⟨g, 0, none⟩)]) : Calls Tryz.prog 20 #[.pointer (some ⟨g4, 0, none⟩)] w fun e w' => e = .returned (.int .i64 (numV s 4)) ∧ Src w' g (nx s 4) ∧ w.grownBy w' (some g) := by
  have c0 := h4.cellv 0 (v := .pointer (some ⟨g, 0, none⟩)) rfl
  have cl := h4.lt
  have b1 := numV_lo s 4
  have b2 := numV_4 s 4 (by omega)
  go_enter Tryz.func20, Tryz.ntmps20
  go_wp2_with fail
  refine (u32P w g s h).mono ?_
  rintro e w2 ⟨rfl, hs, hg⟩
  go_wp2_with fail
  go_ret
  exact ⟨rfl, hs, hg⟩
set_option maxRecDepth 100000 in
set_option maxHeartbeats 8000000 in
theorem peer1_any (w : World) (gs g4 g5 g6 g7 g8 : Nat) (s : St) (hE : PEnv w gs g4 g5 g6 g7 g8) (hs : Src w gs s) : Calls Tryz.prog 22 #[.pointer (some ⟨g6, 0, none⟩), .pointer (some ⟨g8, 0, none⟩), .pointer (some ⟨g5, 0, none⟩)] w fun e w' => e = .returned (.agg (peerC (peerP s).1).toArray) ∧ Src w' gs (peerP s).2 ∧ w.grownBy w' (some gs) := by
  have hb0 := (Below.refl w.heap.size w).alloc (Nat.le_refl _) (.cells #[.int .i64 0, .int .i64 0, .int .i64 0, .int .i64 0, .int .i64 0, .int .i64 0, .int .i64 0] 62)
  have h3 := Blk.new w 62 #[.int .i64 0, .int .i64 0, .int .i64 0, .int .i64 0, .int .i64 0, .int .i64 0, .int .i64 0]
  have hx3 : gs < w.heap.size := hs.lt
  replace hE := hE.alloc (.cells #[.int .i64 0, .int .i64 0, .int .i64 0, .int .i64 0, .int .i64 0, .int .i64 0, .int .i64 0] 62)
  replace hs := hs.alloc (.cells #[.int .i64 0, .int .i64 0, .int .i64 0, .int .i64 0, .int .i64 0, .int .i64 0, .int .i64 0] 62)
  go_enter Tryz.func22, Tryz.ntmps22
  go_upto_region 1 with (fail)
  generalize w.alloc (.cells #[.int .i64 0, .int .i64 0, .int .i64 0, .int .i64 0, .int .i64 0, .int .i64 0, .int .i64 0] 62) = w1 at *
  have c_n16 := hE.n16.cellv 0 (v := .func (.func 18) #[.pointer (some ⟨gs, 0, none⟩)] #[]) rfl
  have l_n16 := hE.n16.lt
  have k_n16 : g6 ≠ gs := by have := hE.ne; omega
  have c_n32 := hE.n32.cellv 0 (v := .func (.func 20) #[] #[.pointer (some ⟨g4, 0, none⟩)]) rfl
  have l_n32 := hE.n32.lt
  have k_n32 : g8 ≠ gs := by have := hE.ne; omega
  have c_n8 := hE.n8.cellv 0 (v := .func (.func 17) #[.pointer (some ⟨gs, 0, none⟩)] #[]) rfl
  have l_n8 := hE.n8.lt
  have k_n8 : g5 ≠ gs := by have := hE.ne; omega
  -- region 1: 0 1C 2 3C 4 5C 6 7C 8 9C 10 11C 12 13C 14 15M
  try refine wp_region_noPanic ?_
  have hs1r : w1.grownBy w1.drew (some gs) := grown_drew (grown_refl _ _)
  refine wp_region_E 15 (S := fun w' => w1.grownBy w' (some gs)) (by kernel_rfl) hs1r (fun _ => ?_)
  (refine e_takeA 0 (by rfl) ?_ (by kernel_rfl) (fun _ _ _ h => h) hs1r ?_ ?_; rotate_left; (focus (intro wq hSw; have hrd : ∀ b' o, b' < w1.heap.size → b' ≠ gs → wq.cell? ⟨b', o, none⟩ = w1.cell? ⟨b', o, none⟩ := (fun b' o h hne => grown_cell hSw h hne); go_simp; try with_reducible rfl; done)); try simp only [Act.put, List.setIfInBounds_toArray, List.set_cons_zero, List.set_cons_succ])
  (refine e_takeA 2 (by rfl) ?_ (by kernel_rfl) (fun _ _ _ h => h) hs1r ?_ ?_; rotate_left; (focus (intro wq hSw; have hrd : ∀ b' o, b' < w1.heap.size → b' ≠ gs → wq.cell? ⟨b', o, none⟩ = w1.cell? ⟨b', o, none⟩ := (fun b' o h hne => grown_cell hSw h hne); go_simp; try with_reducible rfl; done)); try simp only [Act.put, List.setIfInBounds_toArray, List.set_cons_zero, List.set_cons_succ])
  (refine e_takeA 4 (by rfl) ?_ (by kernel_rfl) (fun _ _ _ h => h) hs1r ?_ ?_; rotate_left; (focus (intro wq hSw; have hrd : ∀ b' o, b' < w1.heap.size → b' ≠ gs → wq.cell? ⟨b', o, none⟩ = w1.cell? ⟨b', o, none⟩ := (fun b' o h hne => grown_cell hSw h hne); go_simp; try with_reducible rfl; done)); try simp only [Act.put, List.setIfInBounds_toArray, List.set_cons_zero, List.set_cons_succ])
  (refine e_takeA 6 (by rfl) ?_ (by kernel_rfl) (fun _ _ _ h => h) hs1r ?_ ?_; rotate_left; (focus (intro wq hSw; have hrd : ∀ b' o, b' < w1.heap.size → b' ≠ gs → wq.cell? ⟨b', o, none⟩ = w1.cell? ⟨b', o, none⟩ := (fun b' o h hne => grown_cell hSw h hne); go_simp; try with_reducible rfl; done)); try simp only [Act.put, List.setIfInBounds_toArray, List.set_cons_zero, List.set_cons_succ])
  (refine e_takeA 8 (by rfl) ?_ (by kernel_rfl) (fun _ _ _ h => h) hs1r ?_ ?_; rotate_left; (focus (intro wq hSw; have hrd : ∀ b' o, b' < w1.heap.size → b' ≠ gs → wq.cell? ⟨b', o, none⟩ = w1.cell? ⟨b', o, none⟩ := (fun b' o h hne => grown_cell hSw h hne); go_simp; try with_reducible rfl; done)); try simp only [Act.put, List.setIfInBounds_toArray, List.set_cons_zero, List.set_cons_succ])
  (refine e_takeA 10 (by rfl) ?_ (by kernel_rfl) (fun _ _ _ h => h) hs1r ?_ ?_; rotate_left; (focus (intro wq hSw; have hrd : ∀ b' o, b' < w1.heap.size → b' ≠ gs → wq.cell? ⟨b', o, none⟩ = w1.cell? ⟨b', o, none⟩ := (fun b' o h hne => grown_cell hSw h hne); go_simp; try with_reducible rfl; done)); try simp only [Act.put, List.setIfInBounds_toArray, List.set_cons_zero, List.set_cons_succ])
  (refine e_takeA 12 (by rfl) ?_ (by kernel_rfl) (fun _ _ _ h => h) hs1r ?_ ?_; rotate_left; (focus (intro wq hSw; have hrd : ∀ b' o, b' < w1.heap.size → b' ≠ gs → wq.cell? ⟨b', o, none⟩ = w1.cell? ⟨b', o, none⟩ := (fun b' o h hne => grown_cell hSw h hne); go_simp; try with_reducible rfl; done)); try simp only [Act.put, List.setIfInBounds_toArray, List.set_cons_zero, List.set_cons_succ])
  refine e_callA 1 (by rfl) (by kernel_rfl) (by rfl) (fun KQ hKQ => ?_)
  go_simp
  refine (u16P w1.drew gs s hs.drew).mono ?_
  rintro e w2 ⟨rfl, hs, hg⟩
  replace hg : w1.grownBy w2 (some gs) := grown_trans (grown_drew (grown_refl _ _)) hg
  replace hE := hE.grown hg
  replace h3 := h3.grown hg (by simp; omega)
  replace hb0 := grown_trans (grown_of_below hb0 (Nat.le_refl _) (some gs)) hg
  have hG2 : w1.grownBy w2 (some gs) := hg
  have hs2r := hG2
  refine hKQ.out _ _ hs2r ?_
  clear hKQ KQ
  try simp only [Act.put, List.setIfInBounds_toArray, List.set_cons_zero, List.set_cons_succ]
  clear hg
  refine e_callA 3 (by rfl) (by kernel_rfl) (by rfl) (fun KQ hKQ => ?_)
  go_simp
  refine (u16P w2 gs (nx s 2) hs).mono ?_
  rintro e w3 ⟨rfl, hs, hg⟩
  replace hE := hE.grown hg
  replace h3 := h3.grown hg (by simp; omega)
  replace hb0 := grown_trans hb0 hg
  have hG3 : w1.grownBy w3 (some gs) := grown_trans hG2 hg
  have hs3r := hG3
  refine hKQ.out _ _ hs3r ?_
  clear hKQ KQ
  try simp only [Act.put, List.setIfInBounds_toArray, List.set_cons_zero, List.set_cons_succ]
  clear hg
  refine e_callA 5 (by rfl) (by kernel_rfl) (by rfl) (fun KQ hKQ => ?_)
  go_simp
  refine (u16P w3 gs (nx (nx s 2) 2) hs).mono ?_
  rintro e w4 ⟨rfl, hs, hg⟩
  replace hE := hE.grown hg
  replace h3 := h3.grown hg (by simp; omega)
  replace hb0 := grown_trans hb0 hg
  have hG4 : w1.grownBy w4 (some gs) := grown_trans hG3 hg
  have hs4r := hG4
  refine hKQ.out _ _ hs4r ?_
  clear hKQ KQ
  try simp only [Act.put, List.setIfInBounds_toArray, List.set_cons_zero, List.set_cons_succ]
  clear hg
  refine e_callA 7 (by rfl) (by kernel_rfl) (by rfl) (fun KQ hKQ => ?_)
  go_simp
  refine (u16P w4 gs (nx (nx (nx s 2) 2) 2) hs).mono ?_
  rintro e w5 ⟨rfl, hs, hg⟩
  replace hE := hE.grown hg
  replace h3 := h3.grown hg (by simp; omega)
  replace hb0 := grown_trans hb0 hg
  have hG5 : w1.grownBy w5 (some gs) := grown_trans hG4 hg
  have hs5r := hG5
  refine hKQ.out _ _ hs5r ?_
  clear hKQ KQ
  try simp only [Act.put, List.setIfInBounds_toArray, List.set_cons_zero, List.set_cons_succ]
  clear hg
  refine e_callA 9 (by rfl) (by kernel_rfl) (by rfl) (fun KQ hKQ => ?_)
  go_simp
  refine (n32P w5 gs g4 (nx (nx (nx (nx s 2) 2) 2) 2) hs hE.s4).mono ?_
  rintro e w6 ⟨rfl, hs, hg⟩
  replace hE := hE.grown hg
  replace h3 := h3.grown hg (by simp; omega)
  replace hb0 := grown_trans hb0 hg
  have hG6 : w1.grownBy w6 (some gs) := grown_trans hG5 hg
  have hs6r := hG6
  refine hKQ.out _ _ hs6r ?_
  clear hKQ KQ
  try simp only [Act.put, List.setIfInBounds_toArray, List.set_cons_zero, List.set_cons_succ]
  clear hg
  refine e_callA 11 (by rfl) (by kernel_rfl) (by rfl) (fun KQ hKQ => ?_)
  go_simp
  refine (u8P w6 gs (nx (nx (nx (nx (nx s 2) 2) 2) 2) 4) hs).mono ?_
  rintro e w7 ⟨rfl, hs, hg⟩
  replace hE := hE.grown hg
  replace h3 := h3.grown hg (by simp; omega)
  replace hb0 := grown_trans hb0 hg
  have hG7 : w1.grownBy w7 (some gs) := grown_trans hG6 hg
  have hs7r := hG7
  refine hKQ.out _ _ hs7r ?_
  clear hKQ KQ
  try simp only [Act.put, List.setIfInBounds_toArray, List.set_cons_zero, List.set_cons_succ]
  clear hg
  refine e_callA 13 (by rfl) (by kernel_rfl) (by rfl) (fun KQ hKQ => ?_)
  go_simp
  refine (n32P w7 gs g4 (nx (nx (nx (nx (nx (nx s 2) 2) 2) 2) 4) 1) hs hE.s4).mono ?_
  rintro e w8 ⟨rfl, hs, hg⟩
  replace hE := hE.grown hg
  replace h3 := h3.grown hg (by simp; omega)
  replace hb0 := grown_trans hb0 hg
  have hG8 : w1.grownBy w8 (some gs) := grown_trans hG7 hg
  have hs8r := hG8
  refine hKQ.out _ _ hs8r ?_
  clear hKQ KQ
  try simp only [Act.put, List.setIfInBounds_toArray, List.set_cons_zero, List.set_cons_succ]
  (refine e_takeA 14 (by rfl) ?_ (by kernel_rfl) (fun _ _ _ h => h) hs8r ?_ ?_; rotate_left; (focus (intro wq hSw; have hrd : ∀ b' o, b' < w1.heap.size → b' ≠ gs → wq.cell? ⟨b', o, none⟩ = w1.cell? ⟨b', o, none⟩ := (fun b' o h hne => grown_cell hSw h hne); go_simp; try with_reducible rfl; done)); try simp only [Act.put, List.setIfInBounds_toArray, List.set_cons_zero, List.set_cons_succ])
  clear hg
  refine e_last (by rfl) (by kernel_rfl) (by rfl) (fun KQ hKQ => ?_)
  refine wp_store_blk h3 62 (.tmp 3) (.tmp 18) (by rfl) (by rfl) (by rfl) (by rfl) (by kernel_rfl) (by simp [Value.oneCell']) ?_
  intro w9 h9 hg9
  have hs9 := hs.grown hg9 hx3
  refine hKQ.out _ _ ?_
  clear hKQ KQ
  try simp only [Act.put]
  refine e_done (by kernel_rfl) ?_ _
  try refine NoPanic.normal ?_
  go_wp2_with fail
  refine bodyPost_ret (results_c rfl _ rfl (load_blk h9 Tryz.underlying62 rfl (by kernel_rfl))) rfl ?_
  exact ⟨rfl, hs9, ⟨hg9.os.trans hb0.os, hg9.tape.trans hb0.tape, hg9.output.trans hb0.output, Nat.le_trans hb0.size hg9.size, fun b h1 h2 => (hg9.block b (Nat.lt_of_lt_of_le h1 hb0.size) (by simp; omega)).trans (hb0.block b h1 h2)⟩⟩
set_option maxRecDepth 100000 in
set_option maxHeartbeats 8000000 in
theorem site1_any (w : World) (gs g4 g5 g6 g7 g8 : Nat) (s : St) (hE : PEnv w gs g4 g5 g6 g7 g8) (hs : Src w gs s) : Calls Tryz.prog 28 #[.pointer (some ⟨g5, 0, none⟩), .pointer (some ⟨g7, 0, none⟩), .pointer (some ⟨g8, 0, none⟩)] w fun e w' => e = .returned (.agg (siteC (siteP s).1).toArray) ∧ Src w' gs (siteP s).2 ∧ w.grownBy w' (some gs) := by
  have hb0 := (Below.refl w.heap.size w).alloc (Nat.le_refl _) (.cells #[.int .i64 0, .int .u32 0, .int .i64 0] 72)
  have h3 := Blk.new w 72 #[.int .i64 0, .int .u32 0, .int .i64 0]
  have hx3 : gs < w.heap.size := hs.lt
  replace hE := hE.alloc (.cells #[.int .i64 0, .int .u32 0, .int .i64 0] 72)
  replace hs := hs.alloc (.cells #[.int .i64 0, .int .u32 0, .int .i64 0] 72)
  go_enter Tryz.func28, Tryz.ntmps28
  go_upto_region 1 with (fail)
  generalize w.alloc (.cells #[.int .i64 0, .int .u32 0, .int .i64 0] 72) = w1 at *
  have c_ad := hE.ad.cellv 0 (v := .func (.func 19) #[.pointer (some ⟨gs, 0, none⟩)] #[]) rfl
  have l_ad := hE.ad.lt
  have k_ad : g7 ≠ gs := by have := hE.ne; omega
  have c_n32 := hE.n32.cellv 0 (v := .func (.func 20) #[] #[.pointer (some ⟨g4, 0, none⟩)]) rfl
  have l_n32 := hE.n32.lt
  have k_n32 : g8 ≠ gs := by have := hE.ne; omega
  have c_n8 := hE.n8.cellv 0 (v := .func (.func 17) #[.pointer (some ⟨gs, 0, none⟩)] #[]) rfl
  have l_n8 := hE.n8.lt
  have k_n8 : g5 ≠ gs := by have := hE.ne; omega
  -- region 1: 0 1C 2 3C 4 5C 6 7M
  try refine wp_region_noPanic ?_
  have hs9r : w1.grownBy w1.drew (some gs) := grown_drew (grown_refl _ _)
  refine wp_region_E 7 (S := fun w' => w1.grownBy w' (some gs)) (by kernel_rfl) hs9r (fun _ => ?_)
  (refine e_takeA 0 (by rfl) ?_ (by kernel_rfl) (fun _ _ _ h => h) hs9r ?_ ?_; rotate_left; (focus (intro wq hSw; have hrd : ∀ b' o, b' < w1.heap.size → b' ≠ gs → wq.cell? ⟨b', o, none⟩ = w1.cell? ⟨b', o, none⟩ := (fun b' o h hne => grown_cell hSw h hne); go_simp; try with_reducible rfl; done)); try simp only [Act.put, List.setIfInBounds_toArray, List.set_cons_zero, List.set_cons_succ])
  (refine e_takeA 2 (by rfl) ?_ (by kernel_rfl) (fun _ _ _ h => h) hs9r ?_ ?_; rotate_left; (focus (intro wq hSw; have hrd : ∀ b' o, b' < w1.heap.size → b' ≠ gs → wq.cell? ⟨b', o, none⟩ = w1.cell? ⟨b', o, none⟩ := (fun b' o h hne => grown_cell hSw h hne); go_simp; try with_reducible rfl; done)); try simp only [Act.put, List.setIfInBounds_toArray, List.set_cons_zero, List.set_cons_succ])
  (refine e_takeA 4 (by rfl) ?_ (by kernel_rfl) (fun _ _ _ h => h) hs9r ?_ ?_; rotate_left; (focus (intro wq hSw; have hrd : ∀ b' o, b' < w1.heap.size → b' ≠ gs → wq.cell? ⟨b', o, none⟩ = w1.cell? ⟨b', o, none⟩ := (fun b' o h hne => grown_cell hSw h hne); go_simp; try with_reducible rfl; done)); try simp only [Act.put, List.setIfInBounds_toArray, List.set_cons_zero, List.set_cons_succ])
  refine e_callA 1 (by rfl) (by kernel_rfl) (by rfl) (fun KQ hKQ => ?_)
  go_simp
  refine (u8P w1.drew gs s hs.drew).mono ?_
  rintro e w2 ⟨rfl, hs, hg⟩
  replace hg : w1.grownBy w2 (some gs) := grown_trans (grown_drew (grown_refl _ _)) hg
  replace hE := hE.grown hg
  replace h3 := h3.grown hg (by simp; omega)
  replace hb0 := grown_trans (grown_of_below hb0 (Nat.le_refl _) (some gs)) hg
  have hG2 : w1.grownBy w2 (some gs) := hg
  have hs10r := hG2
  refine hKQ.out _ _ hs10r ?_
  clear hKQ KQ
  try simp only [Act.put, List.setIfInBounds_toArray, List.set_cons_zero, List.set_cons_succ]
  clear hg
  refine e_callA 3 (by rfl) (by kernel_rfl) (by rfl) (fun KQ hKQ => ?_)
  go_simp
  refine (u32P w2 gs (nx s 1) hs).mono ?_
  rintro e w3 ⟨rfl, hs, hg⟩
  replace hE := hE.grown hg
  replace h3 := h3.grown hg (by simp; omega)
  replace hb0 := grown_trans hb0 hg
  have hG3 : w1.grownBy w3 (some gs) := grown_trans hG2 hg
  have hs11r := hG3
  refine hKQ.out _ _ hs11r ?_
  clear hKQ KQ
  try simp only [Act.put, List.setIfInBounds_toArray, List.set_cons_zero, List.set_cons_succ]
  clear hg
  refine e_callA 5 (by rfl) (by kernel_rfl) (by rfl) (fun KQ hKQ => ?_)
  go_simp
  refine (n32P w3 gs g4 (nx (nx s 1) 4) hs hE.s4).mono ?_
  rintro e w4 ⟨rfl, hs, hg⟩
  replace hE := hE.grown hg
  replace h3 := h3.grown hg (by simp; omega)
  replace hb0 := grown_trans hb0 hg
  have hG4 : w1.grownBy w4 (some gs) := grown_trans hG3 hg
  have hs12r := hG4
  refine hKQ.out _ _ hs12r ?_
  clear hKQ KQ
  try simp only [Act.put, List.setIfInBounds_toArray, List.set_cons_zero, List.set_cons_succ]
  (refine e_takeA 6 (by rfl) ?_ (by kernel_rfl) (fun _ _ _ h => h) hs12r ?_ ?_; rotate_left; (focus (intro wq hSw; have hrd : ∀ b' o, b' < w1.heap.size → b' ≠ gs → wq.cell? ⟨b', o, none⟩ = w1.cell? ⟨b', o, none⟩ := (fun b' o h hne => grown_cell hSw h hne); go_simp; try with_reducible rfl; done)); try simp only [Act.put, List.setIfInBounds_toArray, List.set_cons_zero, List.set_cons_succ])
  clear hg
  refine e_last (by rfl) (by kernel_rfl) (by rfl) (fun KQ hKQ => ?_)
  refine wp_store_blk h3 72 (.tmp 3) (.tmp 10) (by rfl) (by rfl) (by rfl) (by rfl) (by kernel_rfl) (by simp [Value.oneCell']) ?_
  intro w9 h9 hg9
  have hs9 := hs.grown hg9 hx3
  refine hKQ.out _ _ ?_
  clear hKQ KQ
  try simp only [Act.put]
  refine e_done (by kernel_rfl) ?_ _
  try refine NoPanic.normal ?_
  go_wp2_with fail
  refine bodyPost_ret (results_c rfl _ rfl (load_blk h9 Tryz.underlying72 rfl (by kernel_rfl))) rfl ?_
  exact ⟨rfl, hs9, ⟨hg9.os.trans hb0.os, hg9.tape.trans hb0.tape, hg9.output.trans hb0.output, Nat.le_trans hb0.size hg9.size, fun b h1 h2 => (hg9.block b (Nat.lt_of_lt_of_le h1 hb0.size) (by simp; omega)).trans (hb0.block b h1 h2)⟩⟩
set_option maxRecDepth 100000 in
set_option maxHeartbeats 8000000 in
theorem bnd1_any (w : World) (gs g4 g5 g6 g7 g8 : Nat) (s : St) (hE : PEnv w gs g4 g5 g6 g7 g8) (hs : Src w gs s) : Calls Tryz.prog 26 #[.pointer (some ⟨g5, 0, none⟩), .pointer (some ⟨g7, 0, none⟩)] w fun e w' => e = .returned (.agg (bndC (bndP s).1).toArray) ∧ Src w' gs (bndP s).2 ∧ w.grownBy w' (some gs) := by
  have hb0 := (Below.refl w.heap.size w).alloc (Nat.le_refl _) (.cells #[.int .i64 0, .int .u32 0, .int .i64 0] 67)
  have h3 := Blk.new w 67 #[.int .i64 0, .int .u32 0, .int .i64 0]
  have hx3 : gs < w.heap.size := hs.lt
  replace hE := hE.alloc (.cells #[.int .i64 0, .int .u32 0, .int .i64 0] 67)
  replace hs := hs.alloc (.cells #[.int .i64 0, .int .u32 0, .int .i64 0] 67)
  go_enter Tryz.func26, Tryz.ntmps26
  go_upto_region 1 with (fail)
  generalize w.alloc (.cells #[.int .i64 0, .int .u32 0, .int .i64 0] 67) = w1 at *
  have c_ad := hE.ad.cellv 0 (v := .func (.func 19) #[.pointer (some ⟨gs, 0, none⟩)] #[]) rfl
  have l_ad := hE.ad.lt
  have k_ad : g7 ≠ gs := by have := hE.ne; omega
  have c_n8 := hE.n8.cellv 0 (v := .func (.func 17) #[.pointer (some ⟨gs, 0, none⟩)] #[]) rfl
  have l_n8 := hE.n8.lt
  have k_n8 : g5 ≠ gs := by have := hE.ne; omega
  -- region 1: 0 1C 2 3C 4 5C 6 7M
  try refine wp_region_noPanic ?_
  have hs13r : w1.grownBy w1.drew (some gs) := grown_drew (grown_refl _ _)
  refine wp_region_E 7 (S := fun w' => w1.grownBy w' (some gs)) (by kernel_rfl) hs13r (fun _ => ?_)
  (refine e_takeA 0 (by rfl) ?_ (by kernel_rfl) (fun _ _ _ h => h) hs13r ?_ ?_; rotate_left; (focus (intro wq hSw; have hrd : ∀ b' o, b' < w1.heap.size → b' ≠ gs → wq.cell? ⟨b', o, none⟩ = w1.cell? ⟨b', o, none⟩ := (fun b' o h hne => grown_cell hSw h hne); go_simp; try with_reducible rfl; done)); try simp only [Act.put, List.setIfInBounds_toArray, List.set_cons_zero, List.set_cons_succ])
  (refine e_takeA 2 (by rfl) ?_ (by kernel_rfl) (fun _ _ _ h => h) hs13r ?_ ?_; rotate_left; (focus (intro wq hSw; have hrd : ∀ b' o, b' < w1.heap.size → b' ≠ gs → wq.cell? ⟨b', o, none⟩ = w1.cell? ⟨b', o, none⟩ := (fun b' o h hne => grown_cell hSw h hne); go_simp; try with_reducible rfl; done)); try simp only [Act.put, List.setIfInBounds_toArray, List.set_cons_zero, List.set_cons_succ])
  (refine e_takeA 4 (by rfl) ?_ (by kernel_rfl) (fun _ _ _ h => h) hs13r ?_ ?_; rotate_left; (focus (intro wq hSw; have hrd : ∀ b' o, b' < w1.heap.size → b' ≠ gs → wq.cell? ⟨b', o, none⟩ = w1.cell? ⟨b', o, none⟩ := (fun b' o h hne => grown_cell hSw h hne); go_simp; try with_reducible rfl; done)); try simp only [Act.put, List.setIfInBounds_toArray, List.set_cons_zero, List.set_cons_succ])
  refine e_callA 1 (by rfl) (by kernel_rfl) (by rfl) (fun KQ hKQ => ?_)
  go_simp
  refine (u8P w1.drew gs s hs.drew).mono ?_
  rintro e w2 ⟨rfl, hs, hg⟩
  replace hg : w1.grownBy w2 (some gs) := grown_trans (grown_drew (grown_refl _ _)) hg
  replace hE := hE.grown hg
  replace h3 := h3.grown hg (by simp; omega)
  replace hb0 := grown_trans (grown_of_below hb0 (Nat.le_refl _) (some gs)) hg
  have hG2 : w1.grownBy w2 (some gs) := hg
  have hs14r := hG2
  refine hKQ.out _ _ hs14r ?_
  clear hKQ KQ
  try simp only [Act.put, List.setIfInBounds_toArray, List.set_cons_zero, List.set_cons_succ]
  clear hg
  refine e_callA 3 (by rfl) (by kernel_rfl) (by rfl) (fun KQ hKQ => ?_)
  go_simp
  refine (u32P w2 gs (nx s 1) hs).mono ?_
  rintro e w3 ⟨rfl, hs, hg⟩
  replace hE := hE.grown hg
  replace h3 := h3.grown hg (by simp; omega)
  replace hb0 := grown_trans hb0 hg
  have hG3 : w1.grownBy w3 (some gs) := grown_trans hG2 hg
  have hs15r := hG3
  refine hKQ.out _ _ hs15r ?_
  clear hKQ KQ
  try simp only [Act.put, List.setIfInBounds_toArray, List.set_cons_zero, List.set_cons_succ]
  clear hg
  refine e_callA 5 (by rfl) (by kernel_rfl) (by rfl) (fun KQ hKQ => ?_)
  go_simp
  refine (u8P w3 gs (nx (nx s 1) 4) hs).mono ?_
  rintro e w4 ⟨rfl, hs, hg⟩
  replace hE := hE.grown hg
  replace h3 := h3.grown hg (by simp; omega)
  replace hb0 := grown_trans hb0 hg
  have hG4 : w1.grownBy w4 (some gs) := grown_trans hG3 hg
  have hs16r := hG4
  refine hKQ.out _ _ hs16r ?_
  clear hKQ KQ
  try simp only [Act.put, List.setIfInBounds_toArray, List.set_cons_zero, List.set_cons_succ]
  (refine e_takeA 6 (by rfl) ?_ (by kernel_rfl) (fun _ _ _ h => h) hs16r ?_ ?_; rotate_left; (focus (intro wq hSw; have hrd : ∀ b' o, b' < w1.heap.size → b' ≠ gs → wq.cell? ⟨b', o, none⟩ = w1.cell? ⟨b', o, none⟩ := (fun b' o h hne => grown_cell hSw h hne); go_simp; try with_reducible rfl; done)); try simp only [Act.put, List.setIfInBounds_toArray, List.set_cons_zero, List.set_cons_succ])
  clear hg
  refine e_last (by rfl) (by kernel_rfl) (by rfl) (fun KQ hKQ => ?_)
  refine wp_store_blk h3 67 (.tmp 2) (.tmp 9) (by rfl) (by rfl) (by rfl) (by rfl) (by kernel_rfl) (by simp [Value.oneCell']) ?_
  intro w9 h9 hg9
  have hs9 := hs.grown hg9 hx3
  refine hKQ.out _ _ ?_
  clear hKQ KQ
  try simp only [Act.put]
  refine e_done (by kernel_rfl) ?_ _
  try refine NoPanic.normal ?_
  go_wp2_with fail
  refine bodyPost_ret (results_c rfl _ rfl (load_blk h9 Tryz.underlying67 rfl (by kernel_rfl))) rfl ?_
  exact ⟨rfl, hs9, ⟨hg9.os.trans hb0.os, hg9.tape.trans hb0.tape, hg9.output.trans hb0.output, Nat.le_trans hb0.size hg9.size, fun b h1 h2 => (hg9.block b (Nat.lt_of_lt_of_le h1 hb0.size) (by simp; omega)).trans (hb0.block b h1 h2)⟩⟩
end Go.Proofs.YtecmhakapomepaaGreat
