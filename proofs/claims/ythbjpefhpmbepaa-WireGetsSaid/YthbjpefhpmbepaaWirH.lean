/- wire: get, by Bytes and by Sub. -/
import Derived.Test.YthbjpefhpmbepaaWirG
namespace Go.Proofs.Ythbjpefhpmbepaa
set_option linter.unusedVariables false
open Go.RowKit

theorem OwnB.apart {w : World} {base n g : Nat} {v : Value} {l : List UInt8} (h : OwnB w base v n l) (hg : g < base) : v.ownBlock = none ∨ v.ownBlock ≠ some g := by
  rcases h.2 with ⟨q, _⟩ | ⟨gg, _, _, q, hq, _⟩ <;> rw [q] <;> simp [Value.ownBlock]
  omega

set_option maxHeartbeats 4000000 in
theorem get3_any (w : World) (B lo g gm : Nat) (s : St) (h : Two w lo g gm s) (hBg : B ≤ g) (hB : B ≤ w.heap.size) (m : Int) :
    Calls Try.prog 23 #[.pointer (some ⟨g, 0, none⟩), .pointer (some ⟨gm, 0, none⟩), .agg #[.int .i64 3, .int .i64 m]] w fun e w' => ∃ s', e = .returned (.bool true) ∧ Two w' lo g gm s' ∧ Below B w w' := by
  have hw0 := Blk.new w 49 #[.int .i64 3, .int .i64 m]
  have hb0 := (Below.refl B w).alloc hB (.cells #[.int .i64 3, .int .i64 m] 49)
  have h0 := h.below ((Below.refl w.heap.size w).alloc (Nat.le_refl _) (.cells #[.int .i64 3, .int .i64 m] 49)) h.ref.lt
  have c0 := hw0.cellv 0 (v := .int .i64 3) rfl
  have hlo := h.hlo
  have hgm := h.hgm
  have hgmlt := h.ref.lt
  go_enter Try.func23, Try.ntmps23
  go_wp2_with fail
  generalize w.alloc (.cells #[.int .i64 3, .int .i64 m] 49) = w0 at *
  have hb0d := hb0.drew
  have hs0 : Src w0.drew g s := h0.src
  have hr0 : Ref w0.drew lo gm s := h0.ref
  have hw0d := hw0.drew
  have d0 := hw0d.cellv 1 (v := .int .i64 m) rfl
  have hgw : some w.heap.size ≠ some g := by simp; omega
  have hgw2 : some w.heap.size ≠ some gm := by simp; omega
  clear h h0 c0
  go_region_with (first
    | (go_at_call 28; refine (bytes_any _ g s hs0 m).mono ?_; rintro e w1 ⟨v1, rfl, hown1, hs1, hg1⟩; have hcv1 := hown1.str; have hr1 := hr0.grown hg1 hlo hgm; have hb1 := below_own hb0d hg1 (Nat.le_trans hB hb0d.size) hBg; have hw1 := hw0d.grown hg1 hgw; have d1 := hw1.cellv 1 (v := .int .i64 m) rfl)
    | (go_at_call 39; refine (refBytes_any _ lo gm s hr1 m).mono ?_; rintro e w2 ⟨v2, rfl, hown2, hr2, hg2⟩; have hcv2 := hown2.str; have hcv1' := (hown1.kept hg2 (hown1.apart hr0.lt)).str; have hs2 := hs1.grown hg2 hgm; have hb2 := below_own hb1 hg2 (Nat.le_trans hB hb1.size) (Nat.le_trans hBg (Nat.le_of_lt hgm))))
  all_goals (go_wp2_with fail; go_ret; exact ⟨_, rfl, ⟨hs2, hr2, hlo, hgm⟩, hb2⟩)

theorem leftV_new (l : List UInt8) : leftV ⟨l, 0, 0⟩ = (l.length : Int) := by simp [leftV]
theorem tk_all (l : List UInt8) : tk ⟨l, 0, 0⟩ (l.length : Int) = (⟨[], (l.length : Int), 0⟩, l) := by simp [tk]

/-- a source's bytes lie in blocks from lo on. -/
def SrcLo (w : World) (lo g : Nat) : Prop := ∀ a n c, w.cell? ⟨g, 1, none⟩ = some (.slice (some a) n c) → lo ≤ a.block
theorem Src.grown_lo {w w' : World} {lo g row : Nat} {s : St} (h : Src w g s) (hl : SrcLo w lo g) (hb : w.grownBy w' (some row)) (h1 : row < lo) (h2 : row < g) : Src w' g s := by
  obtain ⟨A, n, c, q1, q2, q3, q4, q5⟩ := h
  refine ⟨A, n, c, q1, q2, q3.grown hb (by simp; omega), ⟨q4.1, fun hn => ?_⟩, q5⟩
  obtain ⟨b, off, rfl, hbg, hc⟩ := q4.2 hn
  have hlo : lo ≤ b := hl _ _ _ (q3.cellv 1 rfl)
  refine ⟨b, off, rfl, hbg, fun j hj => ?_⟩
  rw [← hc j hj]
  have e := hb.block b (by have := q3.lt; omega) (by simp; omega)
  unfold World.cell?
  rw [e]
set_option maxHeartbeats 400000 in
theorem read2_any (w : World) (A : Option Addr) (n c : Nat) (l : List UInt8) (B : Nat) (h : Byt w B A n l) (hB : B ≤ w.heap.size) (hn : n ≤ 100000000) :
    Calls Try.prog 15 #[.slice A n c] w fun e w' => ∃ g, e = .returned (.pointer (some ⟨g, 0, none⟩)) ∧ w.heap.size ≤ g ∧ Src w' g ⟨l, 0, 0⟩ ∧ SrcLo w' w.heap.size g ∧ Below w.heap.size w w' := by
  go_enter Try.func15, Try.ntmps15
  go_wp2_with fail
  refine (clone_any w A n c l B h hB hn).mono ?_
  rintro e w1 ⟨v, rfl, hown, hb⟩
  obtain ⟨A1, c1, rfl, hc1, hc2, hby, hA⟩ := hown.any2
  have hl := h.1
  go_wp2_with fail
  go_ret
  refine ⟨_, rfl, hb.size, ⟨A1, n, c1, hc1, hc2, Blk.new _ _ _, hby.alloc (Nat.le_refl _) _, by simp, by simp; omega⟩, ?_, hb.alloc hb.size _⟩
  intro a n2 c2 hcell
  rw [(Blk.new w1 55 #[.bool true, .slice A1 n c1, .int .i64 0, .int .i64 0]).cellv 1 (v := .slice A1 n c1) rfl] at hcell
  injection hcell with e
  injection e with e1 e2 e3
  exact hA a e1
set_option maxHeartbeats 400000 in
theorem sub2_any (w : World) (g : Nat) (s : St) (h : Src w g s) (m : Int) :
    Calls Try.prog 29 #[.pointer (some ⟨g, 0, none⟩), .int .i64 m] w fun e w' => ∃ g2, e = .returned (.pointer (some ⟨g2, 0, none⟩)) ∧ w.heap.size ≤ g2 ∧ Src w' g2 ⟨(tk s m).2, 0, 0⟩ ∧ SrcLo w' w.heap.size g2 ∧ Src w' g (tk s m).1 ∧ w.grownBy w' (some g) := by
  have hs := h
  have hmx := h.max
  have hmx2 := tk_max s m
  have hlt := h.lt
  obtain ⟨A, n, c, h1, h2, h3, h4, h5, h6⟩ := h
  have c0 := h3.cellv 0 (v := .bool true) rfl
  go_enter Try.func29, Try.ntmps29
  go_wp2_with fail
  refine (take_any w g s hs m).mono ?_
  rintro e w1 ⟨A1, k, rfl, hb, hs1, hg⟩
  have hl := hb.1
  have hsz := hg.size
  go_wp2_with fail
  refine (read2_any w1 A1 k k _ g hb (by omega) (by omega)).mono ?_
  rintro e w2 ⟨g2, rfl, hg2, hs2, hlo2, hbe⟩
  go_wp2_with fail
  go_ret
  exact ⟨_, rfl, by omega, hs2, fun a n c hc => Nat.le_trans hsz (hlo2 a n c hc), hs1.below hbe (by omega), grown_trans hg (grown_of hbe (Nat.le_refl _) _)⟩

set_option maxHeartbeats 4000000 in
theorem get5_any (w : World) (B lo g gm : Nat) (s : St) (h : Two w lo g gm s) (hBg : B ≤ g) (hB : B ≤ w.heap.size) (k m : Int) (hk : k < 0 ∨ 4 < k) :
    Calls Try.prog 23 #[.pointer (some ⟨g, 0, none⟩), .pointer (some ⟨gm, 0, none⟩), .agg #[.int .i64 k, .int .i64 m]] w fun e w' => ∃ s', e = .returned (.bool true) ∧ Two w' lo g gm s' ∧ Below B w w' := by
  have hw0 := Blk.new w 49 #[.int .i64 k, .int .i64 m]
  have hb0 := (Below.refl B w).alloc hB (.cells #[.int .i64 k, .int .i64 m] 49)
  have h0 := h.below ((Below.refl w.heap.size w).alloc (Nat.le_refl _) (.cells #[.int .i64 k, .int .i64 m] 49)) h.ref.lt
  have hsz0 : w.heap.size + 1 = (w.alloc (.cells #[.int .i64 k, .int .i64 m] 49)).heap.size := by simp
  have c0 := hw0.cellv 0 (v := .int .i64 k) rfl
  have hlo := h.hlo
  have hgm := h.hgm
  have hgmlt := h.ref.lt
  have k0 : ¬ k = 0 := by omega
  have k1 : ¬ k = 1 := by omega
  have k2 : ¬ k = 2 := by omega
  have k3 : ¬ k = 3 := by omega
  have k4 : ¬ k = 4 := by omega
  go_enter Try.func23, Try.ntmps23
  go_wp2_with fail
  generalize w.alloc (.cells #[.int .i64 k, .int .i64 m] 49) = w0 at *
  have hb0d := hb0.drew
  have hs0 : Src w0.drew g s := h0.src
  have hr0 : Ref w0.drew lo gm s := h0.ref
  have hw0d := hw0.drew
  have d0 := hw0d.cellv 1 (v := .int .i64 m) rfl
  have hgw : some w.heap.size ≠ some g := by simp; omega
  have hgw2 : some w.heap.size ≠ some gm := by simp; omega
  clear h h0 c0
  have hlt0 := hr0.lt
  go_region_held3 (fun w' => w'.cell? ⟨w.heap.size, 1, none⟩ = some (.int .i64 m)) (first | exact d0 | exact d1 | exact d2) (first
    | (go_at_call 29; refine (sub2_any _ g s hs0 m).mono ?_; rintro e w1 ⟨g2, rfl, hgg2, hx1, hxl1, hs1, hg1⟩; have hr1 := hr0.grown hg1 hlo hgm; have hb1 := below_own hb0d hg1 (Nat.le_trans hB hb0d.size) hBg; have hw1 := hw0d.grown hg1 hgw; have d1 := hw1.cellv 1 (v := .int .i64 m) rfl)
    | (go_at_call 41; refine (refSub_any _ lo gm s hr1 m).mono ?_; rintro e w2 ⟨gm2, lo2, rfl, hll2, hgg3, hy2, hr2, hg2⟩; have hs2 := hs1.grown hg2 hgm; have hb2 := below_own hb1 hg2 (Nat.le_trans hB hb1.size) (Nat.le_trans hBg (Nat.le_of_lt hgm)); have hw2 := hw1.grown hg2 hgw2; have d2 := hw2.cellv 1 (v := .int .i64 m) rfl))
  have hx2 := hx1.grown_lo hxl1 hg2 hlt0 (by omega)
  have hxlt := hx1.lt
  have hz1 := hg1.size
  have hz2 := hg2.size
  have hgm2lt := hy2.lt
  clear hw0 hw0d d0 hw1 d1 hw2 d2 hr1 hs1 hx1 hxl1 hg1 hg2 hb1 hr0 hs0 hb0d hb0
  go_wp2_with fail
  have hrx := rest_any w2.drew g2 _ hx2.drew
  rw [leftV_new, tk_all] at hrx
  have hB2 := hb2.drew
  have hxe : endV ⟨[], ((tk s m).2.length : Int), 0⟩ = 0 := by simp [endV, leftV]
  have hs2d := hs2.drew
  have hr2d := hr2.drew
  have hy2d := hy2.drew
  have hgg : gm < g2 := Nat.lt_of_lt_of_le hlt0 hgg2
  have hg0 : g < g2 := by omega
  have hgl : g2 < lo2 := by omega
  have hgm3 : g2 < gm2 := by omega
  have hgm4 : gm < gm2 := by omega
  have hBg2 : B ≤ g2 := by omega
  have hBgm2 : B ≤ gm2 := by omega
  generalize (tk s m).2 = L at *
  generalize (tk s m).1 = s1 at *
  go_region_with (first
    | (go_at_call 20; refine hrx.mono ?_; rintro e w3 ⟨v3, rfl, hown3, hx3, hg3⟩; have hcv3 := hown3.str; have hy3 := hy2d.grown hg3 hgl hgm3; have hb3 := below_own hB2 hg3 (Nat.le_trans hB hB2.size) hBg2; have hs3 := hs2d.grown hg3 hg0; have hr3 := hr2d.grown_up hg3 hgg)
    | (go_at_call 40; have hry := refRest_any _ lo2 gm2 _ hy3; rw [leftV_new, tk_all] at hry; refine hry.mono ?_; rintro e w4 ⟨v4, rfl, hown4, hy4, hg4⟩; have hcv4 := hown4.str; have hcv3' := (hown3.kept hg4 (hown3.apart hgm2lt)).str; have hb4 := below_own hb3 hg4 (Nat.le_trans hB hb3.size) hBgm2; have hs4 := hs3.grown hg4 (Nat.lt_trans hg0 hgm3); have hr4 := hr3.grown_up hg4 hgm4; have hx4 := hx3.grown hg4 hgm3)
    | (go_at_call 21; refine (end_any _ g2 _ hx4).mono ?_; rintro e w5 ⟨rfl, hb5⟩; have hs5 := hs4.below hb5 hs4.lt; have hr5 := hr4.below hb5 hr4.lt; have hb5 := hb4.trans (hb5.mono (Nat.le_trans hB hb4.size)); simp only [hxe]))
  all_goals (go_wp2_with fail; go_ret; exact ⟨_, rfl, ⟨hs5, hr5, hlo, hgm⟩, hb5⟩)
end Go.Proofs.Ythbjpefhpmbepaa
