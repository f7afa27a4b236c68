/- timer: the document's table; New, When, Next. -/
import Derived.Test.YtejgekoinbdhjaaTiT
import Derived.Test.YtejgekoinbdhjaaRowC
namespace Go.Proofs.Ytejgekoinbdhjaa
set_option linter.unusedVariables false
open Go Go.RowKit Go.Maps

/-- rows: an id, when. -/
def rwK : RK (Int × Int) where
  size := 2
  cel r := [.int .i64 r.1, .int .i64 r.2]
  ok _ _ _ := True
  pos := by omega
  len _ := rfl
  one _ u hu := by simp at hu; rcases hu with rfl | rfl <;> rfl
  keep _ _ := trivial
  more _ _ := trivial
theorem rw_ok : ElemOk Try.prog 208 243 rwK.size 16 (.agg #[.int .i64 0, .int .i64 0]) := ⟨Try.underlying208, by kernel_rfl, rfl, rwK.pos⟩
theorem rw_cells {w : World} {S : Nat → Prop} {A : Option Addr} {n : Nat} {L : List (Int × Int)} {k : Nat} (h : Seen rwK w S A n L) (hk : k < n) :
    ∃ b off x y, A = some ⟨b, off, none⟩ ∧ S b ∧ L[k]? = some (x, y) ∧ w.cell? ⟨b, off + k * 2, none⟩ = some (.int .i64 x) ∧ w.cell? ⟨b, off + k * 2 + 1, none⟩ = some (.int .i64 y) := by
  have hlt : k < L.length := by rw [h.1]; exact hk
  have hr := List.getElem?_eq_getElem hlt
  obtain ⟨b, off, e, hb, hc⟩ := h.cell hr
  exact ⟨b, off, _, _, e, hb, hr, hc 0 (by decide), hc 1 (by decide)⟩
/-- the document's table: its block d, its rows of its own; all in blocks of which Y is so. -/
def RefT (w : World) (Y : Nat → Prop) (d : Nat) (mo no : Int) (L : List (Int × Int)) : Prop :=
  ∃ v, Blk w d 210 #[.int .i64 mo, .int .i64 no, v] ∧ Rows rwK w 0 0 243 v L ∧ v.ownBlock ≠ some d ∧ (∀ k, k = d ∨ v.ownBlock = some k → Y k) ∧ ∀ k, Y k → k < w.heap.size
section
variable {w w' : World} {X Y : Nat → Prop} {d : Nat} {mo no : Int} {L : List (Int × Int)}
theorem RefT.chg (h : RefT w Y d mo no L) (hc : Chg w w' X) (hd : ∀ k, Y k → ¬ X k) : RefT w' Y d mo no L := by
  obtain ⟨v, h1, h2, h3, h4, h5⟩ := h
  exact ⟨v, hc.blk h1 (hd _ (h4 _ (.inl rfl))), ⟨hc.own h2.1 (fun k e => hd k (h4 k (.inr e))), fun _ _ => trivial⟩, h3, h4, fun k hk => Nat.lt_of_lt_of_le (h5 k hk) hc.size⟩
theorem RefT.nx (h : RefT w Y d mo no L) (hb : Below w.heap.size w w') : RefT w' Y d mo no L := h.chg (Chg.of_below (X := fun _ => False) hb) fun _ _ q => q
theorem RefT.lt (h : RefT w Y d mo no L) : ∀ k, Y k → k < w.heap.size := by
  obtain ⟨v, h1, h2, h3, h4, h5⟩ := h
  exact h5
end
def findN (L : List (Int × Int)) (id : Int) : Int × Bool :=
  match L.find? (fun r => decide (r.1 = id)) with
  | some r => (r.2, true)
  | none => (0, false)
def stepN (a : Int × Bool) (r : Int × Int) : Int × Bool := if a.2 = false ∨ r.2 < a.1 then (r.2, true) else a
def nextN (L : List (Int × Int)) : Int × Bool := L.foldl stepN (0, false)
theorem refNewT (w : World) (mo : Int) (h1 : 1 ≤ mo) (h2 : mo ≤ 1024) :
    Calls Try.prog 67 #[.int .i64 mo] w fun e w' => ∃ d Y, e = .returned (.pointer (some ⟨d, 0, none⟩)) ∧ RefT w' Y d mo 0 [] ∧ (∀ k, Y k → w.heap.size ≤ k) ∧ Below w.heap.size w w' := by
  have d1 : decide (mo < 1) = false := by simp; omega
  have d2 : decide (1024 < mo) = false := by simp; omega
  have hB := (Below.refl w.heap.size w).alloc (Nat.le_refl _) (.cells #[.int .i64 mo, .int .i64 0, .slice none 0 0] 210)
  have hq := Blk.new w 210 #[.int .i64 mo, .int .i64 0, .slice none 0 0]
  go_enter Try.func67, Try.ntmps67
  go_wp2_with fail
  go_ret
  refine ⟨_, fun k => k = w.heap.size, rfl, ⟨_, hq, Rows.nil _ _ _ _, by simp [Value.ownBlock], ?_, ?_⟩, fun k hk => by omega, hB⟩
  · rintro k (h | h)
    · exact h
    · cases h
  · intro k hk
    rw [hk]; exact hq.lt
theorem refNewNo (w : World) (mo : Int) (h : mo < 1 ∨ 1024 < mo) :
    Calls Try.prog 67 #[.int .i64 mo] w fun e w' => e = .returned (.pointer none) ∧ w = w' := by
  go_enter Try.func67, Try.ntmps67
  by_cases d : mo < 1
  · have d1 : decide (mo < 1) = true := by simpa using d
    go_wp2_with fail
    go_ret
    exact ⟨rfl, rfl⟩
  have d1 : decide (mo < 1) = false := by simpa using d
  have d2 : decide (1024 < mo) = true := by simp; omega
  go_wp2_with fail
  go_ret
  exact ⟨rfl, rfl⟩
theorem find_drop {L : List (Int × Int)} {k : Nat} {r : Int × Int} {id : Int} (hr : L[k]? = some r) (hne : r.1 ≠ id) : findN (L.drop k) id = findN (L.drop (k + 1)) id := by
  obtain ⟨hk, e⟩ := List.getElem?_eq_some_iff.1 hr
  rw [List.drop_eq_getElem_cons hk, e]
  unfold findN
  rw [List.find?_cons]
  simp [hne]
theorem find_here {L : List (Int × Int)} {k : Nat} {r : Int × Int} {id : Int} (hr : L[k]? = some r) (he : r.1 = id) : findN (L.drop k) id = (r.2, true) := by
  obtain ⟨hk, e⟩ := List.getElem?_eq_some_iff.1 hr
  rw [List.drop_eq_getElem_cons hk, e]
  unfold findN
  rw [List.find?_cons]
  simp [he]
set_option maxRecDepth 100000 in
set_option maxHeartbeats 4000000 in
theorem refWhen (w : World) (Y : Nat → Prop) (d : Nat) (mo no : Int) (L : List (Int × Int)) (h : RefT w Y d mo no L) (hn : L.length ≤ 1000000) (id : Int) :
    Calls Try.prog 147 #[.pointer (some ⟨d, 0, none⟩), .int .i64 id] w fun e w' => e = .returned (.tuple #[.int .i64 (findN L id).1, .bool (findN L id).2]) ∧ Below w.heap.size w w' := by
  obtain ⟨v, h1, h2, h3, h4, h5⟩ := h
  obtain ⟨A, c, rfl, -, -, hS⟩ := h2.seen (Nat.le_refl _)
  have c2 : w.cell? ⟨d, 2, none⟩ = some (.slice A L.length c) := h1.cellv 2 rfl
  have ltd := h1.lt
  have hS0 := hS.more (S' := fun b => b < w.heap.size) fun b q => q.2
  obtain ⟨n, hn2⟩ : ∃ n, n = L.length := ⟨_, rfl⟩
  rw [← hn2] at c2 hS0 hn
  replace hn2 := Lib.hid hn2
  clear hS h2 h4 h5
  go_enter Try.func147, Try.ntmps147
  go_wp2_with fail
  go_loopw [13] (fun i wr => ∃ k : Nat, k ≤ n ∧ i = .int .i64 (k : Int) ∧ findN L id = findN (L.drop k) id ∧ Below w.heap.size w wr) (fun i _ => n - (intOf i).toNat)
  case atStart => exact ⟨0, Nat.zero_le _, rfl, by simp, Below.refl _ _⟩
  case round =>
  obtain ⟨k, hk, rfl, hf, hB⟩ := hrel
  have hz := hB.size
  replace hf := Lib.hid hf
  by_cases hlt : k < n
  · obtain ⟨b, off, x, y, rfl, hb1, hxk, e0, e1⟩ := rw_cells (hS0.below hB (fun _ q => q)) hlt
    have ltb : b < wr.heap.size := Nat.lt_of_lt_of_le hb1 hz
    have hki : (k : Int) < n := by omega
    have hB2 := hB.alloc hz (.cells #[.int .i64 x, .int .i64 y] 243)
    by_cases hx : x = id
    · have hbx : (x == id) = true := by simpa using hx
      have hv := Lib.hid (hf.out.trans (find_here hxk hx))
      replace hx := Lib.hid hx
      go_wp2_with fail
      try rw [Exit.noGoto_ret]
      go_ret2
      rw [hv.out]
      exact ⟨rfl, hB2⟩
    · have hbx : (x == id) = false := by simpa using hx
      have hv := Lib.hid (hf.out.trans (find_drop hxk hx))
      replace hx := Lib.hid hx
      go_wp2_with fail
      exact ⟨⟨k + 1, by omega, by go_num, hv.out, hB2⟩, by simp [intOf]; omega⟩
  · obtain rfl : k = n := by omega
    have hv : findN L id = (0, false) := by
      rw [hf.out, List.drop_of_length_le (by have := hn2.out; omega)]; rfl
    replace hv := Lib.hid hv
    go_wp2_with fail
    go_ret2
    rw [hv.out]
    exact ⟨rfl, hB⟩
set_option maxRecDepth 100000 in
set_option maxHeartbeats 4000000 in
theorem refNext (w : World) (Y : Nat → Prop) (d : Nat) (mo no : Int) (L : List (Int × Int)) (h : RefT w Y d mo no L) (hn : L.length ≤ 1000000) :
    Calls Try.prog 148 #[.pointer (some ⟨d, 0, none⟩)] w fun e w' => e = .returned (.tuple #[.int .i64 (nextN L).1, .bool (nextN L).2]) ∧ Below w.heap.size w w' := by
  obtain ⟨v, h1, h2, h3, h4, h5⟩ := h
  obtain ⟨A, c, rfl, -, -, hS⟩ := h2.seen (Nat.le_refl _)
  have c2 : w.cell? ⟨d, 2, none⟩ = some (.slice A L.length c) := h1.cellv 2 rfl
  have ltd := h1.lt
  have hS0 := hS.more (S' := fun b => b < w.heap.size) fun b q => q.2
  obtain ⟨n, hn2⟩ : ∃ n, n = L.length := ⟨_, rfl⟩
  rw [← hn2] at c2 hS0 hn
  replace hn2 := Lib.hid hn2
  clear hS h2 h4 h5
  go_enter Try.func148, Try.ntmps148
  go_wp2_with fail
  go_loopw [4, 5, 13] (fun av ov i wr => ∃ (k : Nat) (a : Int) (o : Bool), k ≤ n ∧ i = .int .i64 (k : Int) ∧ av = .int .i64 a ∧ ov = .bool o ∧ (L.take k).foldl stepN (0, false) = (a, o) ∧ Below w.heap.size w wr) (fun _ _ i _ => n - (intOf i).toNat)
  case atStart => exact ⟨0, 0, false, Nat.zero_le _, rfl, rfl, rfl, rfl, Below.refl _ _⟩
  case round =>
  obtain ⟨k, a, o, hk, rfl, rfl, rfl, hf, hB⟩ := hrel
  have hz := hB.size
  replace hf := Lib.hid hf
  by_cases hlt : k < n
  · obtain ⟨b, off, x, y, rfl, hb1, hxk, e0, e1⟩ := rw_cells (hS0.below hB (fun _ q => q)) hlt
    have ltb : b < wr.heap.size := Nat.lt_of_lt_of_le hb1 hz
    have hki : (k : Int) < n := by omega
    have hB2 := hB.alloc hz (.cells #[.int .i64 x, .int .i64 y] 243)
    have hst : (L.take (k + 1)).foldl stepN (0, false) = stepN (a, o) (x, y) := by
      rw [List.take_add_one, hxk, List.foldl_append, hf.out]; rfl
    cases o with
    | false =>
      have e9 : stepN (a, false) (x, y) = (y, true) := rfl
      rw [e9] at hst
      clear e9
      replace hst := Lib.hid hst
      go_wp2_with fail
      exact ⟨⟨k + 1, y, true, by omega, by go_num, rfl, rfl, hst.out, hB2⟩, by simp [intOf]; omega⟩
    | true =>
      by_cases hya : y < a
      · have e9 : stepN (a, true) (x, y) = (y, true) := by unfold stepN; simp [hya]
        rw [e9] at hst
        clear e9
        replace hst := Lib.hid hst
        go_wp2_with fail
        exact ⟨⟨k + 1, y, true, by omega, by go_num, rfl, rfl, hst.out, hB2⟩, by simp [intOf]; omega⟩
      · have e9 : stepN (a, true) (x, y) = (a, true) := by unfold stepN; simp [hya]
        have dya : decide (y < a) = false := by simpa using hya
        rw [e9] at hst
        clear e9
        replace hst := Lib.hid hst
        go_wp2_with fail
        exact ⟨⟨k + 1, a, true, by omega, by go_num, rfl, rfl, hst.out, hB2⟩, by simp [intOf]; omega⟩
  · obtain rfl : k = n := by omega
    have hv : nextN L = (a, o) := by
      have := hf.out
      rw [List.take_of_length_le (by have := hn2.out; omega)] at this
      exact this
    replace hv := Lib.hid hv
    go_wp2_with fail
    go_ret2
    rw [hv.out]
    exact ⟨rfl, hB⟩
end Go.Proofs.Ytejgekoinbdhjaa
