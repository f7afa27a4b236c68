/- attr: paths of bytes. -/
import Derived.Test.YtfnclmacodchfaaAtE
import Derived.Test.YtfnclmacodchfaaAtI
namespace Go.Proofs.Ytfnclmacodchfaa
set_option linter.unusedVariables false
open Go.RowKit

def intK : RK Int where
  size := 1
  cel z := [.int .i64 z]
  ok _ _ z := (Lit.int .i64 z).wf = true
  pos := by omega
  len _ := rfl
  one _ u hu := by simp at hu; subst hu; rfl
  keep h _ := h
  more h _ := h
theorem int_ok : ElemOk Try.prog 23 3 intK.size 8 (.int .i64 0) := ⟨Try.underlying23, by kernel_rfl, rfl, intK.pos⟩
theorem Seen.nums {w : World} {B n : Nat} {A : Option Addr} {zs : List Int} (h : Seen intK w (fun b => b < B) A n zs) : Nums .i64 w B A n zs := by
  refine ⟨h.1, h.2.1, fun hn => ?_⟩
  obtain ⟨b, off, e, hb, hc⟩ := h.2.2 hn
  refine ⟨b, off, e, hb, fun j hj => ?_⟩
  have hlt : j < zs.length := by rw [h.1]; exact hj
  have h1 := hc j _ (List.getElem?_eq_getElem hlt) 0 (by decide)
  have e1 : off + (j * intK.size + 0) = off + j := by show off + (j * 1 + 0) = _; omega
  rw [e1] at h1
  rw [h1, nAt_get zs j hlt]
  rfl
/-- is x among these? -/
def inB (zs : List Int) (x : Int) : Bool := zs.any (· == x)
theorem inB_iff (zs : List Int) (x : Int) : inB zs x = true ↔ x ∈ zs := by
  unfold inB
  rw [List.any_eq_true]
  constructor
  · rintro ⟨y, hy, h⟩
    have : y = x := by simpa using h
    exact this ▸ hy
  · intro h
    exact ⟨x, h, by simp⟩
set_option maxHeartbeats 800000 in
theorem indexInt_any (w : World) (A : Option Addr) (n c : Nat) (zs : List Int) (x : Int) (h : Nums .i64 w w.heap.size A n zs) (hn : n ≤ 10000000) :
    Calls Try.prog 114 #[.slice A n c, .int .i64 x] w fun e w' => ∃ z, e = .returned (.int .i64 z) ∧ decide (0 ≤ z) = inB zs x ∧ w = w' := by
  have hl := Lib.hid h.1
  go_enter Try.func114, Try.ntmps114
  go_wp2_with fail
  go_loop [8] (fun i => ∃ k : Nat, k ≤ n ∧ i = .int .i64 (k : Int) ∧ inB (zs.take k) x = false) (fun i => n - (intOf i).toNat)
  case atStart => exact ⟨0, Nat.zero_le _, rfl, rfl⟩
  case round =>
    obtain ⟨k, hk, rfl, hall⟩ := hrel
    by_cases hlt : k < n
    · obtain ⟨b, off, rfl, hb, hc⟩ := h.2.2 (by omega)
      have hck := hc k hlt
      have hki : (k : Int) < n := by omega
      have hzk : zs[k]? = some (nAt zs k) := by rw [nAt_get zs k (by rw [hl.out]; exact hlt), List.getElem?_eq_getElem]
      replace hall := Lib.hid hall
      cases hz : (x == nAt zs k)
      · replace hz := hz
        go_wp2_with fail
        go_round
        case rel =>
          refine ⟨k + 1, by omega, by go_num, ?_⟩
          rw [List.take_add_one, hzk]
          unfold inB
          rw [List.any_append]
          have h1 : (zs.take k).any (· == x) = false := hall.out
          have h2 : (nAt zs k == x) = false := by rw [beq_eq_false_iff_ne] at hz ⊢; exact fun e => hz e.symm
          rw [h1]; simp [h2]
        case measure => simp [intOf]; omega
      · go_wp2_with fail
        go_ret
        refine ⟨_, rfl, ?_, rfl⟩
        have : inB zs x = true := (inB_iff zs x).2 (by have e : x = nAt zs k := by simpa using hz
                                                       rw [e]; exact List.mem_of_getElem? hzk)
        rw [this]; simp
    · obtain rfl : n = k := by omega
      rw [List.take_of_length_le (by rw [hl.out]; omega)] at hall
      replace hall := Lib.hid hall
      go_wp2_with fail
      go_ret
      exact ⟨_, rfl, (by rw [hall.out]; decide), rfl⟩
theorem containsInt_any (w : World) (A : Option Addr) (n c : Nat) (zs : List Int) (x : Int) (h : Nums .i64 w w.heap.size A n zs) (hn : n ≤ 10000000) :
    Calls Try.prog 113 #[.slice A n c, .int .i64 x] w fun e w' => e = .returned (.bool (inB zs x)) ∧ w = w' := by
  go_enter Try.func113, Try.ntmps113
  go_wp2_with fail
  refine (indexInt_any w A n c zs x h hn).mono ?_
  rintro e w' ⟨z, rfl, hz, rfl⟩
  go_wp2_with fail
  go_ret
  exact ⟨rfl, rfl⟩
/-! what a path's bytes say. -/
def pkT (s : St) : Int := numV s 1
def pkS1 (s : St) : St := (tk s 1).1
def pkN (s : St) : Int := numV (pkS1 s) 1
def pkS2 (s : St) : St := (tk (pkS1 s) 1).1
def nx2 (s : St) : St := (tk s 2).1
def innF (f : St → List Int → Option (List Int)) : Nat → St → List Int → Option (List Int)
  | 0, s, l => f s l
  | m + 1, s, l => if (nx2 s).e ≠ 0 ∨ numV s 2 = 0 ∨ l.length = 16 then none else innF f m (nx2 s) (l ++ [numV s 2])
def badSeg (s : St) : Bool := (decide (pkT s < 1) || decide (2 < pkT s)) || (pkN s == 0)
def pathF : Nat → St → List Int → Option (List Int)
  | 0, _, l => some l
  | k + 1, s, l => if 0 < leftV s then (if badSeg s = true then none else innF (pathF k) (pkN s).toNat (pkS2 s) l) else some l
theorem innF_congr (f g : St → List Int → Option (List Int)) : ∀ (m : Nat) (s : St) (l : List Int), (∀ s' l', s'.l.length ≤ s.l.length → f s' l' = g s' l') → innF f m s l = innF g m s l
  | 0, s, l, h => h s l (Nat.le_refl _)
  | m + 1, s, l, h => by
    unfold innF
    rw [innF_congr f g m (nx2 s) (l ++ [numV s 2]) fun s' l' hs => h s' l' (Nat.le_trans hs (tk_le s 2))]
theorem tk_nil (s : St) (n : Int) (h : (tk s n).1.e ≠ 0) : (tk s n).2 = [] := by
  unfold tk at h ⊢
  by_cases h1 : s.e ≠ 0
  · rw [if_pos h1]
  · rw [if_neg h1] at h ⊢
    by_cases h2 : n < 0
    · rw [if_pos h2]
    · rw [if_neg h2] at h ⊢
      by_cases h3 : (s.l.length : Int) < n
      · rw [if_pos h3]
      · rw [if_neg h3] at h
        exact absurd rfl h
theorem numV_ok (s : St) (k : Nat) (h : numV s k ≠ 0) : (tk s k).1.e = 0 := by
  refine Classical.byContradiction fun he => h ?_
  unfold numV
  rw [tk_nil s k he]
  split
  · rfl
  · rename_i h1
    obtain rfl : k = 0 := by simpa using h1
    rfl
theorem pk_less (s : St) (h : badSeg s = false) : (pkS2 s).e = 0 ∧ (pkS2 s).l.length < s.l.length := by
  unfold badSeg at h
  simp only [Bool.or_eq_false_iff, beq_eq_false_iff_ne] at h
  have h2 : (pkS2 s).e = 0 := numV_ok (pkS1 s) 1 h.2
  have h1 := tk_e (pkS1 s) 1 h2
  have l1 := tk_lt s 1 h1
  have l2 := tk_le (pkS1 s) 1
  refine ⟨h2, ?_⟩
  have e2 : (pkS2 s).l.length ≤ (pkS1 s).l.length := l2
  have e1 : (pkS1 s).l.length + 1 = s.l.length := l1
  omega
theorem pathF_fuel : ∀ (n m : Nat) (s : St) (l : List Int), s.l.length < n → s.l.length < m → pathF n s l = pathF m s l
  | 0, _, _, _, h, _ => absurd h (by omega)
  | _ + 1, 0, _, _, _, h => absurd h (by omega)
  | n + 1, m + 1, s, l, h, h' => by
    unfold pathF
    by_cases h1 : badSeg s = true
    · rw [if_pos h1, if_pos h1]
    · rw [if_neg h1, if_neg h1]
      have := (pk_less s (by simpa using h1)).2
      rw [innF_congr (pathF n) (pathF m) _ (pkS2 s) l fun s' l' hs => pathF_fuel n m s' l' (by omega) (by omega)]
def pathP (s : St) (l : List Int) : Option (List Int) := pathF (s.l.length + 1) s l
theorem pathP_end {s : St} {l : List Int} (h : ¬ 0 < leftV s) : pathP s l = some l := by unfold pathP pathF; rw [if_neg h]
theorem pathP_bad {s : St} {l : List Int} (h : 0 < leftV s) (h1 : badSeg s = true) : pathP s l = none := by unfold pathP pathF; rw [if_pos h, if_pos h1]
theorem pathP_go {s : St} {l : List Int} (h : 0 < leftV s) (h1 : badSeg s = false) : pathP s l = innF pathP (pkN s).toNat (pkS2 s) l := by
  have hl := (pk_less s h1).2
  have e : pathP s l = innF (pathF s.l.length) (pkN s).toNat (pkS2 s) l := by
    have e1 : pathF (s.l.length + 1) s l = if 0 < leftV s then (if badSeg s = true then none else innF (pathF s.l.length) (pkN s).toNat (pkS2 s) l) else some l := rfl
    show pathF (s.l.length + 1) s l = _
    rw [e1, if_pos h, if_neg (by simp [h1])]
  rw [e]
  exact innF_congr _ _ _ _ _ fun s' l' hs => pathF_fuel _ _ s' l' (by omega) (by omega)
theorem innF_over (f : St → List Int → Option (List Int)) : ∀ (m : Nat) (s : St) (l : List Int), l.length ≤ 16 → 16 < l.length + m → innF f m s l = none
  | 0, s, l, h, h' => absurd h' (by omega)
  | m + 1, s, l, h, h' => by
    unfold innF
    split
    · rfl
    · rename_i h1
      exact innF_over f m (nx2 s) _ (by simp; omega) (by simp; omega)
theorem innF_no {f : St → List Int → Option (List Int)} {m : Nat} {s : St} {l : List Int} (h : (nx2 s).e ≠ 0 ∨ numV s 2 = 0 ∨ l.length = 16) : innF f (m + 1) s l = none := by unfold innF; rw [if_pos h]
theorem innF_go {f : St → List Int → Option (List Int)} {m : Nat} {s : St} {l : List Int} (h : ¬ ((nx2 s).e ≠ 0 ∨ numV s 2 = 0 ∨ l.length = 16)) : innF f (m + 1) s l = innF f m (nx2 s) (l ++ [numV s 2]) := by
  have e : innF f (m + 1) s l = if (nx2 s).e ≠ 0 ∨ numV s 2 = 0 ∨ l.length = 16 then none else innF f m (nx2 s) (l ++ [numV s 2]) := rfl
  rw [e, if_neg h]
theorem numV_2 (s : St) : 0 ≤ numV s 2 ∧ numV s 2 ≤ 65535 := by
  refine ⟨numV_lo s 2, ?_⟩
  unfold numV
  split
  · omega
  · exact getN_2 _ _ (Nat.le_refl _)
theorem wf_small (z : Int) (h : 0 ≤ z ∧ z ≤ 65535) : (Lit.int .i64 z).wf = true := by
  simp [Lit.wf, IntKind.min, IntKind.max, IntKind.signed, IntKind.bits]; omega
/-- the walk is on the way that the spec goes, or on one that it has given up. -/
def OnPath (s0 s : St) (l : List Int) (m : Nat) : Prop := (s.e = 0 ∧ inB l 0 = false ∧ pathP s0 [] = innF pathP m s l) ∨ ((s.e ≠ 0 ∨ inB l 0 = true) ∧ pathP s0 [] = none)
theorem OnPath.next {s0 s : St} {l : List Int} {m : Nat} (h : OnPath s0 s l (m + 1)) (hl : l.length ≠ 16) : OnPath s0 (nx2 s) (l ++ [numV s 2]) m := by
  have hin : inB (l ++ [numV s 2]) 0 = (inB l 0 || numV s 2 == 0) := by unfold inB; rw [List.any_append]; simp
  rcases h with ⟨h1, h2, h3⟩ | ⟨h1, h2⟩
  · by_cases hbad : (nx2 s).e ≠ 0 ∨ numV s 2 = 0 ∨ l.length = 16
    · refine .inr ⟨?_, by rw [h3, innF_no hbad]⟩
      rcases hbad with h | h | h
      · exact .inl h
      · right; rw [hin, h]; simp
      · exact absurd h hl
    · refine .inl ⟨?_, ?_, by rw [h3, innF_go hbad]⟩
      · exact Classical.byContradiction fun h => hbad (.inl h)
      · rw [hin, h2]
        simp only [Bool.false_or, beq_eq_false_iff_ne]
        exact fun h => hbad (.inr (.inl h))
  · refine .inr ⟨?_, h2⟩
    rcases h1 with h1 | h1
    · exact .inl fun h => h1 (tk_e s 2 h)
    · right; rw [hin, h1]; rfl
def PathP (T : TypeId) (w w' : World) (e : Ending) : Option (List Int) → Prop
  | none => ∃ v, e = .returned (.tuple #[v, .bool false])
  | some zs => ∃ v, e = .returned (.tuple #[v, .bool true]) ∧ Rows intK w' w.heap.size w.heap.size T v zs
set_option maxRecDepth 100000 in
set_option maxHeartbeats 8000000 in
theorem path_any (w : World) (A : Option Addr) (n c : Nat) (l : List UInt8) (h : Byt w w.heap.size A n l) (hn : n ≤ 10000000) :
    Calls Try.prog 110 #[.slice A n c] w fun e w' => Below w.heap.size w w' ∧ PathP 3 w w' e (pathP ⟨l, 0, 0⟩ []) := by
  go_enter Try.func110, Try.ntmps110
  go_wp2_with fail
  refine (read_any w A n c l _ h (Nat.le_refl _) (by omega)).mono ?_
  rintro e w1 ⟨g, rfl, hg, hsrc, hb1⟩
  have hB := hb1
  have hrow := Rows.nil (R := intK) w1 (g + 1) (g + 1) 3
  obtain ⟨s0, hs0⟩ : ∃ s0 : St, s0 = ⟨l, 0, 0⟩ := ⟨_, rfl⟩
  rw [← hs0] at hsrc
  have hon : OnPath s0 s0 [] 0 := .inl ⟨by rw [hs0], rfl, rfl⟩
  replace hs0 := Lib.hid hs0
  clear h hb1
  go_wp2_with fail
  go_loopw [5] (fun v wr => ∃ (s : St) (zs : List Int), Src wr g s ∧ zs.length ≤ 16 ∧ Rows intK wr (g + 1) (g + 1) 3 v zs ∧ Below w.heap.size w wr ∧ OnPath s0 s zs 0) (fun _ wr => srcLen wr g)
  case atStart => exact ⟨s0, [], hsrc, by simp, hrow, hB, hon⟩
  case round =>
  clear hsrc hrow hB hon
  obtain ⟨s, zs, hsrc, hz16, hrow, hB, hon⟩ := hrel
  have hlt := hsrc.lt
  have hln := Lib.hid hsrc.srcLen
  replace hon := Lib.hid hon
  go_wp2_with fail
  refine (left_any wr g s hsrc).mono ?_
  rintro e w2 ⟨rfl, rfl⟩
  obtain ⟨A0, q0, rfl, hq0, hqm, hS0⟩ := hrow.seen (Nat.le_refl _)
  by_cases hl : 0 < leftV s
  rotate_left
  · have hl2 : leftV s ≤ 0 := by omega
    have hN := (hS0.more (S' := fun b => b < wr.heap.size) fun b hb => hb.2).nums
    go_wp2_with fail
    refine (err_any wr g s hsrc).mono ?_
    rintro e w2 ⟨rfl, rfl⟩
    by_cases he : s.e = 0
    · have hb : (s.e == 0) = true := by simpa using he
      go_wp2_with fail
      refine (containsInt_any wr A0 _ q0 zs 0 hN (by omega)).mono ?_
      rintro e w2 ⟨rfl, rfl⟩
      rcases hon.out with ⟨_, h2, h3⟩ | ⟨h1, h2⟩
      · have hend : pathP s0 [] = some zs := by rw [h3]; exact pathP_end (by omega)
        replace hend := Lib.hid hend
        rw [h2]
        clear h2 h3
        go_wp2_with fail
        go_ret2
        refine ⟨hB, ?_⟩
        rw [← hs0.out, hend.out]
        exact ⟨_, rfl, hrow.less (by omega) (by omega)⟩
      · have h0 : inB zs 0 = true := by rcases h1 with h | h; exact absurd he h; exact h
        replace h2 := Lib.hid h2
        rw [h0]
        clear h0 h1
        go_wp2_with fail
        go_ret2
        refine ⟨hB, ?_⟩
        rw [← hs0.out, h2.out]
        exact ⟨_, rfl⟩
    · have hb : (s.e == 0) = false := by simpa using he
      have hno : pathP s0 [] = none := by
        rcases hon.out with ⟨h1, _⟩ | ⟨_, h2⟩
        · exact absurd h1 he
        · exact h2
      replace hno := Lib.hid hno
      replace he := Lib.hid he
      go_wp2_with fail
      go_ret2
      refine ⟨hB, ?_⟩
      rw [← hs0.out, hno.out]
      exact ⟨_, rfl⟩
  have hse : s.e = 0 := Classical.byContradiction fun h => by unfold leftV at hl; rw [if_neg h] at hl; omega
  go_wp2_with fail
  refine (u8_any wr g s hsrc).mono ?_
  rintro e w3 ⟨rfl, hsrc1, hg3⟩
  have eT : numV s 1 = pkT s := rfl
  have eS1 : (tk s 1).1 = pkS1 s := rfl
  rw [eT]
  rw [eS1] at hsrc1
  go_wp2_with fail
  refine (u8_any w3 g (pkS1 s) hsrc1).mono ?_
  rintro e w4 ⟨rfl, hsrc2, hg4⟩
  have eN : numV (pkS1 s) 1 = pkN s := rfl
  have eS2 : (tk (pkS1 s) 1).1 = pkS2 s := rfl
  rw [eN]
  rw [eS2] at hsrc2
  have hgz : g < g + 1 := Nat.lt_succ_self _
  replace hrow := hrow.kept hg3 (fun k e => by cases e; exact hgz) (Nat.le_refl _)
  replace hrow := hrow.kept hg4 (fun k e => by cases e; exact hgz) (Nat.le_refl _)
  replace hB := below_own hB hg3 hB.size (by omega)
  replace hB := below_own hB hg4 hB.size (by omega)
  have hlens : (pkS2 s).l.length < s.l.length := by
    have hl1 : 1 ≤ s.l.length := by unfold leftV at hl; rw [if_pos hse] at hl; omega
    have e1 : (tk s (1 : Nat)).1.e = 0 := by
      unfold tk
      rw [if_neg (by simpa using hse), if_neg (by omega), if_neg (by omega)]
    have h1 := tk_lt s 1 e1
    have h2 := tk_le (pkS1 s) 1
    have e2 : (pkS2 s).l.length ≤ (pkS1 s).l.length := h2
    have e3 : (pkS1 s).l.length + 1 = s.l.length := h1
    omega
  have k0 : 0 ≤ pkT s := numV_lo _ _
  have n0 : 0 ≤ pkN s := numV_lo _ _
  have nhi : pkN s ≤ 65535 := by
    show numV (pkS1 s) 1 ≤ 65535
    unfold numV
    split
    · omega
    · exact getN_2 _ _ (by omega)
  clear eT eS1 eN eS2 hg3 hg4 hsrc hsrc1 hS0 hse
  have hbadN : badSeg s = true → pathP s0 [] = none := fun hb => by
    rcases hon.out with ⟨_, _, h3⟩ | ⟨_, h2⟩
    · rw [h3]; exact pathP_bad hl hb
    · exact h2
  replace hbadN := Lib.hid hbadN
  by_cases hk : pkT s = 1 ∨ pkT s = 2
  rotate_left
  · have b1 : (pkT s != 1) = true := by rw [bne_iff_ne]; omega
    have b2 : (pkT s != 2) = true := by rw [bne_iff_ne]; omega
    have hno := hbadN.out (by unfold badSeg; simp; omega)
    replace hno := Lib.hid hno
    replace hk := Lib.hid hk
    go_wp2_with fail
    go_ret2
    refine ⟨hB, ?_⟩
    rw [← hs0.out, hno.out]
    exact ⟨_, rfl⟩
  rcases hk with hk | hk
  · skip
    have b1 : (pkT s != 1) = false := by rw [hk]; rfl
    by_cases hn0 : pkN s = 0
    · have b3 : (pkN s == 0) = true := by simpa using hn0
      have hno := hbadN.out (by unfold badSeg; rw [b3]; simp)
      replace hno := Lib.hid hno
      replace hk := Lib.hid hk
      replace hn0 := Lib.hid hn0
      go_wp2_with fail
      go_ret2
      refine ⟨hB, ?_⟩
      rw [← hs0.out, hno.out]
      exact ⟨_, rfl⟩
    have b3 : (pkN s == 0) = false := by simpa using hn0
    have hgood : badSeg s = false := by unfold badSeg; rw [b3, hk]; rfl
    have hon2 : OnPath s0 (pkS2 s) zs (pkN s).toNat := by
      rcases hon.out with ⟨h1, h2, h3⟩ | ⟨h1, h2⟩
      · exact .inl ⟨(pk_less s hgood).1, h2, h3.trans (pathP_go hl hgood)⟩
      · refine .inr ⟨?_, h2⟩
        rcases h1 with h1 | h1
        · exact absurd (tk_e s 1 (tk_e (pkS1 s) 1 (pk_less s hgood).1)) h1
        · exact .inr h1
    replace hk := Lib.hid hk
    obtain ⟨m, hm⟩ : ∃ m : Nat, pkN s = m := ⟨(pkN s).toNat, by omega⟩
    rw [hm] at hon2 b3 n0 nhi ⊢
    rw [Int.toNat_natCast] at hon2
    replace hn0 : m ≠ 0 := by intro e; apply hn0; rw [hm, e]; rfl
    replace hm := Lib.hid hm
    by_cases hov : 16 < zs.length + m
    · have hno : pathP s0 [] = none := by
        rcases hon2 with ⟨_, _, h3⟩ | ⟨_, h2⟩
        · rw [h3]; exact innF_over _ _ _ _ hz16 hov
        · exact h2
      replace hno := Lib.hid hno
      replace hon2 := Lib.hid hon2
      have d1 : (16 : Int) < (zs.length : Int) + m := by omega
      go_wp2_with fail
      go_ret2
      refine ⟨hB, ?_⟩
      rw [← hs0.out, hno.out]
      exact ⟨_, rfl⟩
    have d1 : (zs.length : Int) + m ≤ 16 := by omega
    go_wp2_with fail
    go_loopw [5, 36] (fun v i wr => ∃ (k : Nat) (s2 : St) (ys : List Int), k ≤ m ∧ i = .int .i64 (k : Int) ∧ Src wr g s2 ∧ s2.l.length ≤ (pkS2 s).l.length ∧ ys.length = zs.length + k ∧ Rows intK wr (g + 1) (g + 1) 3 v ys ∧ Below w.heap.size w wr ∧ OnPath s0 s2 ys (m - k)) (fun _ i _ => m - (intOf i).toNat)
    case atStart => exact ⟨0, pkS2 s, zs, Nat.zero_le _, rfl, hsrc2, Nat.le_refl _, rfl, hrow, hB, hon2⟩
    case round =>
    clear hsrc2 hrow hB hon2 hlt
    obtain ⟨k, s2, ys, hkm, rfl, hsrc2, hsl, hyl, hrow, hB, hon2⟩ := hrel
    have hlt := hsrc2.lt
    by_cases hkl : k < m
    rotate_left
    · obtain rfl : k = m := by omega
      rw [Nat.sub_self] at hon2
      replace hon2 := Lib.hid hon2
      replace hyl := Lib.hid hyl
      go_wp2_with fail
      refine ⟨⟨s2, ys, hsrc2, by rw [hyl.out]; omega, hrow, hB, hon2.out⟩, ?_⟩
      rw [hsrc2.srcLen, hln.out]; omega
    have hki : (k : Int) < m := by omega
    replace hon2 := Lib.hid hon2
    replace hyl := Lib.hid hyl
    go_wp2_with fail
    refine (u16_any _ g s2 hsrc2).mono ?_
    rintro e w5 ⟨rfl, hsrc3, hg5⟩
    have eS3 : (tk s2 2).1 = nx2 s2 := rfl
    rw [eS3] at hsrc3
    replace hrow := hrow.kept hg5 (fun k e => by cases e; exact hgz) (Nat.le_refl _)
    replace hB := below_own hB hg5 hB.size (by omega)
    have hv := numV_2 s2
    have hwf := wf_small _ hv
    have hok : intK.ok w5 (fun b => b < w5.heap.size) (numV s2 2) := hwf
    have hone := seen_one w5 3 (numV s2 2) #[.int .i64 (numV s2 2)] rfl hok (S' := fun b => b < w5.heap.size + 1) (fun b hb => hb) (Nat.lt_succ_self _) (fun b hb => by omega)
    have hrow5 := hrow.alloc (.cells #[.int .i64 (numV s2 2)] 3)
    have hsrc5 := hsrc3.alloc (.cells #[.int .i64 (numV s2 2)] 3)
    have hB5 := hB.alloc hB.size (.cells #[.int .i64 (numV s2 2)] 3)
    have hlt5 := hsrc3.lt
    have hokl : ∀ e ∈ [numV s2 2], (Lit.int .i64 e).wf = true := fun e he => by
      obtain rfl : e = numV s2 2 := by simpa using he
      exact hwf
    have hy16 : ys.length ≤ 16 := by rw [hyl.out]; omega
    have hon3 : OnPath s0 s2 ys (m - (k + 1) + 1) := by
      have e : m - k = m - (k + 1) + 1 := by omega
      rw [← e]; exact hon2.out
    have hnext := Lib.hid (hon3.next (by have := hyl.out; omega))
    clear hon3
    have hle3 : (nx2 s2).l.length ≤ s2.l.length := tk_le s2 2
    clear eS3 hg5
    go_wp2_with (at_builtin; refine wpList_rows int_ok rfl (.tmp 38) (.tmp 41) rfl hrow5 rfl rfl hone hokl (by unfold maxLen; omega) (by omega) (by simp; omega) ?_; intro v6 w6 hrow6 hg6)
    have hb6 := hrow5.below_app hg6 (by simp; omega)
    refine ⟨⟨k + 1, nx2 s2, ys ++ [numV s2 2], by omega, by go_num, hsrc5.below hb6 hgz, by omega, by rw [List.length_append, hyl.out]; simp; omega, hrow6, hB5.trans (hb6.mono (by omega)), hnext.out⟩, ?_⟩
    simp [intOf]; omega
  · skip
    have b1 : (pkT s != 1) = true := by rw [hk]; rfl
    have b2 : (pkT s != 2) = false := by rw [hk]; rfl
    by_cases hn0 : pkN s = 0
    · have b3 : (pkN s == 0) = true := by simpa using hn0
      have hno := hbadN.out (by unfold badSeg; rw [b3]; simp)
      replace hno := Lib.hid hno
      replace hk := Lib.hid hk
      replace hn0 := Lib.hid hn0
      go_wp2_with fail
      go_ret2
      refine ⟨hB, ?_⟩
      rw [← hs0.out, hno.out]
      exact ⟨_, rfl⟩
    have b3 : (pkN s == 0) = false := by simpa using hn0
    have hgood : badSeg s = false := by unfold badSeg; rw [b3, hk]; rfl
    have hon2 : OnPath s0 (pkS2 s) zs (pkN s).toNat := by
      rcases hon.out with ⟨h1, h2, h3⟩ | ⟨h1, h2⟩
      · exact .inl ⟨(pk_less s hgood).1, h2, h3.trans (pathP_go hl hgood)⟩
      · refine .inr ⟨?_, h2⟩
        rcases h1 with h1 | h1
        · exact absurd (tk_e s 1 (tk_e (pkS1 s) 1 (pk_less s hgood).1)) h1
        · exact .inr h1
    replace hk := Lib.hid hk
    obtain ⟨m, hm⟩ : ∃ m : Nat, pkN s = m := ⟨(pkN s).toNat, by omega⟩
    rw [hm] at hon2 b3 n0 nhi ⊢
    rw [Int.toNat_natCast] at hon2
    replace hn0 : m ≠ 0 := by intro e; apply hn0; rw [hm, e]; rfl
    replace hm := Lib.hid hm
    by_cases hov : 16 < zs.length + m
    · have hno : pathP s0 [] = none := by
        rcases hon2 with ⟨_, _, h3⟩ | ⟨_, h2⟩
        · rw [h3]; exact innF_over _ _ _ _ hz16 hov
        · exact h2
      replace hno := Lib.hid hno
      replace hon2 := Lib.hid hon2
      have d1 : (16 : Int) < (zs.length : Int) + m := by omega
      go_wp2_with fail
      go_ret2
      refine ⟨hB, ?_⟩
      rw [← hs0.out, hno.out]
      exact ⟨_, rfl⟩
    have d1 : (zs.length : Int) + m ≤ 16 := by omega
    go_wp2_with fail
    go_loopw [5, 36] (fun v i wr => ∃ (k : Nat) (s2 : St) (ys : List Int), k ≤ m ∧ i = .int .i64 (k : Int) ∧ Src wr g s2 ∧ s2.l.length ≤ (pkS2 s).l.length ∧ ys.length = zs.length + k ∧ Rows intK wr (g + 1) (g + 1) 3 v ys ∧ Below w.heap.size w wr ∧ OnPath s0 s2 ys (m - k)) (fun _ i _ => m - (intOf i).toNat)
    case atStart => exact ⟨0, pkS2 s, zs, Nat.zero_le _, rfl, hsrc2, Nat.le_refl _, rfl, hrow, hB, hon2⟩
    case round =>
    clear hsrc2 hrow hB hon2 hlt
    obtain ⟨k, s2, ys, hkm, rfl, hsrc2, hsl, hyl, hrow, hB, hon2⟩ := hrel
    have hlt := hsrc2.lt
    by_cases hkl : k < m
    rotate_left
    · obtain rfl : k = m := by omega
      rw [Nat.sub_self] at hon2
      replace hon2 := Lib.hid hon2
      replace hyl := Lib.hid hyl
      go_wp2_with fail
      refine ⟨⟨s2, ys, hsrc2, by rw [hyl.out]; omega, hrow, hB, hon2.out⟩, ?_⟩
      rw [hsrc2.srcLen, hln.out]; omega
    have hki : (k : Int) < m := by omega
    replace hon2 := Lib.hid hon2
    replace hyl := Lib.hid hyl
    go_wp2_with fail
    refine (u16_any _ g s2 hsrc2).mono ?_
    rintro e w5 ⟨rfl, hsrc3, hg5⟩
    have eS3 : (tk s2 2).1 = nx2 s2 := rfl
    rw [eS3] at hsrc3
    replace hrow := hrow.kept hg5 (fun k e => by cases e; exact hgz) (Nat.le_refl _)
    replace hB := below_own hB hg5 hB.size (by omega)
    have hv := numV_2 s2
    have hwf := wf_small _ hv
    have hok : intK.ok w5 (fun b => b < w5.heap.size) (numV s2 2) := hwf
    have hone := seen_one w5 3 (numV s2 2) #[.int .i64 (numV s2 2)] rfl hok (S' := fun b => b < w5.heap.size + 1) (fun b hb => hb) (Nat.lt_succ_self _) (fun b hb => by omega)
    have hrow5 := hrow.alloc (.cells #[.int .i64 (numV s2 2)] 3)
    have hsrc5 := hsrc3.alloc (.cells #[.int .i64 (numV s2 2)] 3)
    have hB5 := hB.alloc hB.size (.cells #[.int .i64 (numV s2 2)] 3)
    have hlt5 := hsrc3.lt
    have hokl : ∀ e ∈ [numV s2 2], (Lit.int .i64 e).wf = true := fun e he => by
      obtain rfl : e = numV s2 2 := by simpa using he
      exact hwf
    have hy16 : ys.length ≤ 16 := by rw [hyl.out]; omega
    have hon3 : OnPath s0 s2 ys (m - (k + 1) + 1) := by
      have e : m - k = m - (k + 1) + 1 := by omega
      rw [← e]; exact hon2.out
    have hnext := Lib.hid (hon3.next (by have := hyl.out; omega))
    clear hon3
    have hle3 : (nx2 s2).l.length ≤ s2.l.length := tk_le s2 2
    clear eS3 hg5
    go_wp2_with (at_builtin; refine wpList_rows int_ok rfl (.tmp 38) (.tmp 41) rfl hrow5 rfl rfl hone hokl (by unfold maxLen; omega) (by omega) (by simp; omega) ?_; intro v6 w6 hrow6 hg6)
    have hb6 := hrow5.below_app hg6 (by simp; omega)
    refine ⟨⟨k + 1, nx2 s2, ys ++ [numV s2 2], by omega, by go_num, hsrc5.below hb6 hgz, by omega, by rw [List.length_append, hyl.out]; simp; omega, hrow6, hB5.trans (hb6.mono (by omega)), hnext.out⟩, ?_⟩
    simp [intOf]; omega
end Go.Proofs.Ytfnclmacodchfaa
