/- timer: a table in plain terms: Cancel, Skip, Next, Armed. -/
import Derived.Test.YtejgekoinbdhjaaTjG
namespace Go.Proofs.Ytejgekoinbdhjaa
set_option linter.unusedVariables false
open Go Go.RowKit Go.Maps

def noId (id : Int) (M : List Slo) : List Slo := M.filter fun s => decide (s.id ≠ id)
def hasId (id : Int) (M : List Slo) : Bool := M.any fun s => decide (s.id = id)
theorem noId_none {id : Int} {M : List Slo} (h : ∀ s ∈ M, s.id ≠ id) : noId id M = M := List.filter_eq_self.2 fun a ha => by simpa using h a ha
theorem hasId_yes {M : List Slo} {s : Slo} (h : s ∈ M) : hasId s.id M = true := List.any_eq_true.2 ⟨s, h, by simp⟩
theorem hasId_no {id : Int} {M : List Slo} (h : ∀ s ∈ M, s.id ≠ id) : hasId id M = false := by
  unfold hasId
  rw [List.any_eq_false]
  intro s hs
  simpa using h s hs
theorem noId_perm : ∀ {M : List Slo} {s : Slo}, (M.Pairwise fun a b => a.id ≠ b.id) → s ∈ M → M.Perm (s :: noId s.id M)
  | [], s, _, h => by cases h
  | a :: M, s, hp, hs => by
    rw [List.pairwise_cons] at hp
    by_cases e : a = s
    · subst e
      have h1 : noId a.id (a :: M) = M := by
        unfold noId
        rw [List.filter_cons_of_neg (by simp)]
        exact noId_none fun b hb => (hp.1 b hb).symm
      rw [h1]
    · have hs : s ∈ M := (List.mem_cons.1 hs).resolve_left fun q => e q.symm
      have h1 : noId s.id (a :: M) = a :: noId s.id M := by
        unfold noId
        rw [List.filter_cons_of_pos (by simpa using hp.1 s hs)]
      rw [h1]
      exact ((noId_perm hp.2 hs).cons a).trans (List.Perm.swap ..)
theorem GoodT.cancelled {mo no co : Int} {M A H : List Slo} (h : GoodT mo no co M A H) {j : Nat} {s : Slo} (hj : A[j]? = some s) : GoodT mo no co (noId s.id M) (A.eraseIdx j) H :=
  ⟨h.hmo, h.hco, erase_perm hj (h.perm.trans (noId_perm h.ids (h.perm.mem_iff.1 (List.mem_of_getElem? hj)))), h.asc.filter _, h.ids.filter _, fun s hs => h.late s (List.mem_filter.1 hs).1, h.rng, ⟨h.held.1, fun a ha => h.held.2 a (erase_mem ha)⟩, h.few⟩
section
variable {w : World} {X : Nat → Prop} {g : Nat} {mo no co : Int} {M : List Slo}
theorem cancelX (h : TabX w X g mo no co M) (id : Int) (r0 : -9223372036854775808 ≤ id) (r1 : id ≤ 9223372036854775807) :
    Calls Try.prog 61 #[.pointer (some ⟨g, 0, none⟩), .int .i64 id] w fun e w' => e = .returned (.bool (hasId id M)) ∧ TabX w' X g mo no co (noId id M) ∧ Chg w w' X := by
  obtain ⟨b, v, A, H, hT, hG, hX, hlt⟩ := h
  by_cases hm : ∃ s ∈ M, s.id = id
  · obtain ⟨s, hs, rfl⟩ := hm
    obtain ⟨j, hj⟩ := List.getElem?_of_mem (hG.perm.mem_iff.2 hs)
    refine (cancelHit w g b mo no co v A H hT s j hj r0 r1).mono ?_
    rintro e w' ⟨rfl, hT', hC⟩
    refine ⟨by rw [hasId_yes hs], ⟨b, v, _, H, hT', hG.cancelled hj, hX, fun k hk => Nat.lt_of_lt_of_le (hlt k hk) hC.size⟩, hC.mono fun i _ q => hX i (.inr (.inl q))⟩
  · have hn : ∀ s ∈ M, s.id ≠ id := fun s hs e => hm ⟨s, hs, e⟩
    refine (cancelMiss w g b mo no co v A H hT id (fun a ha => hn a (hG.perm.mem_iff.1 ha)) r0 r1).mono ?_
    rintro e w' ⟨rfl, hT', hC⟩
    refine ⟨by rw [hasId_no hn], ⟨b, v, A, H, hT', by rw [noId_none hn]; exact hG, hX, fun k hk => Nat.lt_of_lt_of_le (hlt k hk) hC.size⟩, hC.mono fun i _ q => hX i (.inr (.inl q))⟩
end
/-- so many ticks. -/
def skX : Nat → Int → List Slo → List Int × List Slo
  | 0, _, M => ([], M)
  | k + 1, no, M => ((skX k no M).1 ++ (((skX k no M).2.filter (isAt (no + k + 1))).map Slo.id), (skX k no M).2.filter (notAt (no + k + 1)))
theorem splitX_len (M : List Slo) (t : Int) : ((M.filter (isAt t)).map Slo.id).length + (M.filter (notAt t)).length = M.length := by
  rw [List.length_map]
  induction M with
  | nil => rfl
  | cons a l ih =>
    have e : notAt t a = !(isAt t a) := rfl
    cases h : isAt t a <;> rw [h] at e <;> simp [h, e] <;> omega
theorem skX_len (k : Nat) (no : Int) (M : List Slo) : (skX k no M).1.length + (skX k no M).2.length = M.length := by
  induction k with
  | zero => simp [skX]
  | succ k ih =>
    have := splitX_len (skX k no M).2 (no + k + 1)
    simp only [skX, List.length_append]
    omega
set_option maxRecDepth 100000 in
set_option maxHeartbeats 8000000 in
theorem skipX (w : World) (X : Nat → Prop) (g : Nat) (mo no co : Int) (M : List Slo) (h : TabX w X g mo no co M) (hM : M.length ≤ 100000) (h0 : 0 ≤ no) (hno : no < 1000000000) (hco : co ≤ 1000000) (n : Int) (m : Nat) (hm : m = n.toNat) (hmm : m ≤ 2000) :
    Calls Try.prog 64 #[.pointer (some ⟨g, 0, none⟩), .int .i64 n] w fun e w' => ∃ lv, e = .returned lv ∧ Rows intK w' w.heap.size w.heap.size 3 lv (skX m no M).1 ∧ TabX w' X g mo (no + m) co (skX m no M).2 ∧ Chg w w' X := by
  by_cases hn0 : n < 0
  · have d1 : decide ((0 : Int) ≤ n) = false := by simp; omega
    obtain rfl : m = 0 := by omega
    go_enter Try.func64, Try.ntmps64
    go_wp2_with fail
    refine wp_loop_rounds 1 ?_
    rw [rounds_succ]
    go_wp2_with fail
    go_ret
    exact ⟨_, rfl, Rows.nil _ _ _ _, by simpa [skX] using h, Chg.of_below (Below.refl _ _)⟩
  obtain rfl : n = (m : Int) := by omega
  clear hm
  have d1 : (0 : Int) ≤ (m : Int) := by omega
  have d3 : decide ((m : Int) < 0) = false := by simp
  have d2 : (m : Int) ≤ 100000 := by omega
  clear hn0
  have hXl := h.lt
  go_enter Try.func64, Try.ntmps64
  go_wp2_with fail
  go_loopw [5, 9] (fun lv i wr => ∃ k : Nat, k ≤ m ∧ i = .int .i64 (k : Int) ∧ Rows intK wr w.heap.size w.heap.size 3 lv (skX k no M).1 ∧ TabX wr X g mo (no + k) co (skX k no M).2 ∧ Chg w wr X) (fun _ i _ => m - (intOf i).toNat)
  case atStart => exact ⟨0, Nat.zero_le _, rfl, Rows.nil _ _ _ _, by simpa [skX] using h, Chg.of_below (Below.refl _ _)⟩
  case round =>
  clear h
  obtain ⟨k, hk, rfl, hl, hT, hC⟩ := hrel
  have hz := hC.size
  have hlen := skX_len k no M
  by_cases hlt : k < m
  · have hki : (k : Int) < (m : Int) := by omega
    obtain ⟨Mk, hMk⟩ : ∃ Mk, Mk = (skX k no M).2 := ⟨_, rfl⟩
    obtain ⟨lk, hlk⟩ : ∃ lk, lk = (skX k no M).1 := ⟨_, rfl⟩
    rw [← hMk, ← hlk] at hlen
    rw [← hMk] at hT
    rw [← hlk] at hl
    have hst : skX (k + 1) no M = (lk ++ ((Mk.filter (isAt (no + k + 1))).map Slo.id), Mk.filter (notAt (no + k + 1))) := by rw [hMk, hlk]; rfl
    replace hst := Lib.hid hst
    clear hMk hlk
    have hln : lk.length ≤ 100000 := by omega
    have hfm : ((Mk.filter (isAt (no + k + 1))).map Slo.id).length ≤ 100000 := by rw [List.length_map]; have := List.length_filter_le (isAt (no + k + 1)) Mk; omega
    obtain ⟨n2, hn2⟩ : ∃ n2, n2 = ((Mk.filter (isAt (no + k + 1))).map Slo.id).length := ⟨_, rfl⟩
    rw [← hn2] at hfm
    replace hn2 := Lib.hid hn2
    have tok := True.intro
    go_wp2_with (first
      | (go_at_call 55; clear tok; refine (tickX hT (by omega) (by omega) hco).mono ?_; rintro e w6 ⟨lv2, rfl, hl2, hT2, hC2⟩; obtain ⟨A2, cc2, e2, -, -, hS2⟩ := hl2.seen (Nat.le_refl _); rw [← hn2.out] at e2 hS2; subst e2; have hl6 := row_chg hl hC2 (fun j e q => by have := (hl.1.lt j e).1; have := hXl j q; omega); have hz6 := hC2.size)
      | (at_builtin; refine wpList_rows int_ok rfl (.tmp 11) (.tmp 13) rfl hl6 rfl rfl hS2 (fun a ha => hl2.2 a ha) (by unfold maxLen; omega) (by omega) (by omega) ?_; intro v7 w7 hl7 hg7))
    have hCg : Chg w6 w7 (fun q => u5.ownBlock = some q) := Chg.of_grownO hg7 (fun _ e => e)
    have hT7 := hT2.chg hCg (fun j hj q => by have := (hl.1.lt j q).1; have := hXl j hj; omega)
    have hC7 := (hC.trans hC2 (fun _ _ q => q)).trans hCg (fun i hi q => by have := (hl.1.lt i q).1; omega)
    exact ⟨⟨k + 1, by omega, by go_num, by rw [hst.out]; exact hl7, by rw [hst.out, show no + ((k + 1 : Nat) : Int) = no + k + 1 by omega]; exact hT7, hC7⟩, by simp [intOf]; omega⟩
  · obtain rfl : k = m := by omega
    go_wp2_with fail
    go_ret
    exact ⟨_, rfl, hl, hT, hC⟩
end Go.Proofs.Ytejgekoinbdhjaa
