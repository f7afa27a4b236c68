/- timer: a table in plain terms: Next, Armed. -/
import Derived.Test.YtejgekoinbdhjaaTjI
namespace Go.Proofs.Ytejgekoinbdhjaa
set_option linter.unusedVariables false
open Go Go.RowKit Go.Maps

theorem asc_eq : ∀ {l m : List Int}, (l.Pairwise fun a b => a < b) → (m.Pairwise fun a b => a < b) → (∀ z, z ∈ l ↔ z ∈ m) → l = m
  | [], [], _, _, _ => rfl
  | [], b :: m, _, _, h => absurd ((h b).2 (by simp)) (by simp)
  | a :: l, [], _, _, h => absurd ((h a).1 (by simp)) (by simp)
  | a :: l, b :: m, h1, h2, h => by
    rw [List.pairwise_cons] at h1 h2
    have e : a = b := by
      have q1 := (h a).1 (by simp)
      have q2 := (h b).2 (by simp)
      rcases List.mem_cons.1 q1 with q | q
      · exact q
      · rcases List.mem_cons.1 q2 with r | r
        · exact r.symm
        · have := h2.1 a q; have := h1.1 b r; omega
    subst e
    refine congrArg (a :: ·) (asc_eq h1.2 h2.2 fun z => ?_)
    have := h z
    rw [List.mem_cons, List.mem_cons] at this
    refine ⟨fun hz => ?_, fun hz => ?_⟩
    · exact (this.1 (.inr hz)).resolve_left fun q => by have := h1.1 z hz; omega
    · exact (this.2 (.inr hz)).resolve_left fun q => by have := h2.1 z hz; omega
theorem int_flat (l : List Int) : l.flatMap intK.cel = l.map (Value.int .i64) := by
  induction l with
  | nil => rfl
  | cons a l ih => rw [List.flatMap_cons, ih]; rfl
theorem armN_asc (L : List (Int × Int)) (k : Nat) : (armN L k).Pairwise fun a b => a < b := by
  unfold armN
  rw [List.pairwise_map]
  refine List.Pairwise.imp (R := fun (a b : Nat) => a < b) (fun h => by omega) ?_
  exact List.Pairwise.filter _ List.pairwise_lt_range
theorem armN_mem (L : List (Int × Int)) (k : Nat) (z : Int) : z ∈ armN L k ↔ ∃ i : Nat, i < k ∧ z = i ∧ (findN L (i : Int)).2 = true := by
  unfold armN
  simp only [List.mem_map, List.mem_filter, List.mem_range]
  constructor
  · rintro ⟨i, ⟨h1, h2⟩, rfl⟩; exact ⟨i, h1, rfl, h2⟩
  · rintro ⟨i, h1, rfl, h2⟩; exact ⟨i, ⟨h1, h2⟩, rfl⟩
theorem arm_rel {mo no co : Int} {M A H : List Slo} (h : GoodT mo no co M A H) (m : Nat) (hm : mo = m) : (A.map Slo.id).mergeSort leI = armN (rowsOf M) m := by
  have hp : ((A.map Slo.id).mergeSort leI).Perm (M.map Slo.id) := (List.mergeSort_perm _ _).trans (h.perm.map _)
  have hnd : ((A.map Slo.id).mergeSort leI).Pairwise fun a b => a ≠ b := by
    have h1 : (M.map Slo.id).Pairwise fun a b => a ≠ b := List.pairwise_map.2 h.ids
    exact (hp.pairwise_iff (fun h q => h q.symm)).2 h1
  have hle : ((A.map Slo.id).mergeSort leI).Pairwise fun a b => leI a b = true := List.pairwise_mergeSort (fun a b c h1 h2 => by simp [leI] at *; omega) (fun a b => by simp [leI]; omega) _
  refine asc_eq ?_ (armN_asc _ _) fun z => ?_
  · refine List.Pairwise.imp (R := fun a b => leI a b = true ∧ a ≠ b) (fun {a b} h => ?_) (hle.and hnd)
    have := h.1
    simp only [leI, decide_eq_true_eq] at this
    have := h.2
    omega
  · rw [hp.mem_iff, armN_mem]
    constructor
    · intro hz
      obtain ⟨s, hs, rfl⟩ := List.mem_map.1 hz
      have hr := h.rng s (h.held.2 s (h.perm.mem_iff.2 hs))
      unfold SloIn at hr
      refine ⟨s.id.toNat, by omega, by omega, ?_⟩
      rw [show ((s.id.toNat : Nat) : Int) = s.id by omega, find_some h.ids hs]
    · rintro ⟨i, hi, rfl, hf⟩
      by_cases hm : ∃ s ∈ M, s.id = i
      · obtain ⟨s, hs, e⟩ := hm
        exact List.mem_map.2 ⟨s, hs, e⟩
      · rw [find_none fun s hs e => hm ⟨s, hs, e⟩] at hf
        cases hf
theorem GoodT.freshed {mo no co : Int} {M A H : List Slo} (h : GoodT mo no co M A H) : GoodT mo no co M A (freshL H.length A H) ∧ nextN (rowsOf M) = ((atS (freshL H.length A H) 0).ex, decide (0 < (freshL H.length A H).length)) := by
  obtain ⟨h1, h2⟩ := fresh_held H.length A H (Nat.le_refl _) h.held
  refine ⟨⟨h.hmo, h.hco, h.perm, h.asc, h.ids, h.late, fun s hs => h.rng s (fresh_mem _ _ _ s hs), h1, by have := fresh_len H.length A H; have := h.few; omega⟩, ?_⟩
  rcases h2 with ⟨q1, q2⟩ | ⟨q1, q2⟩
  · have hM : M = [] := by
      have := h.perm
      rw [q2] at this
      exact this.symm.eq_nil
    rw [hM, q1]
    rfl
  · rw [next_least (h.perm.mem_iff.1 q2) fun a ha => ?_]
    · simp [q1]
    · have := heap_least h1.1 (h1.2 a (h.perm.mem_iff.2 ha))
      unfold leS at this
      omega
set_option maxRecDepth 100000 in
set_option maxHeartbeats 8000000 in
theorem nextX {w : World} {X : Nat → Prop} {g : Nat} {mo no co : Int} {M : List Slo} (h : TabX w X g mo no co M) (hco : co ≤ 1000000) :
    Calls Try.prog 60 #[.pointer (some ⟨g, 0, none⟩)] w fun e w' => e = .returned (.tuple #[.int .i64 (nextN (rowsOf M)).1, .bool (nextN (rowsOf M)).2]) ∧ TabX w' X g mo no co M ∧ Chg w w' X := by
  obtain ⟨b, v, A, H, hT, hG, hX, hlt⟩ := h
  have hok : ∀ s ∈ H, SloOk s := fun s hs => by have := hG.rng s hs; have := hG.hmo; unfold SloIn at *; unfold SloOk; omega
  have hHl : H.length ≤ 1000000 := by have := hG.hmo; have := hG.few; omega
  obtain ⟨hG2, hN⟩ := hG.freshed
  rw [hN]
  clear hN
  obtain ⟨H', hH'⟩ : ∃ H', H' = freshL H.length A H := ⟨_, rfl⟩
  rw [← hH'] at hG2 ⊢
  replace hH' := Lib.hid hH'
  obtain ⟨s, hs⟩ : ∃ s, s = atS H' 0 := ⟨_, rfl⟩
  obtain ⟨o, ho⟩ : ∃ o, o = decide (0 < H'.length) := ⟨_, rfl⟩
  have hv : headV H' = .tuple #[.agg #[.int .i64 s.id, .int .i64 s.ex, .int .i64 s.od], .bool o] := by rw [headV_eq, hs, ho]
  rw [← hs, ← ho]
  replace hs := Lib.hid hs
  replace ho := Lib.hid ho
  go_enter Try.func60, Try.ntmps60
  go_upto_region 4 with (first
    | (go_at_call 134; refine (madeT_in hT).mono ?_; rintro e w' ⟨rfl, rfl⟩)
    | (go_at_call 137; refine (fresh_gen w g b mo no co v A H hT hok hHl).mono ?_; rw [← hH'.out, hv]; rintro e w5 ⟨v5, rfl, hT5, hv5, hC5⟩))
  have hB := (Below.refl w5.heap.size w5).alloc (Nat.le_refl _) (.cells #[.int .i64 s.id, .int .i64 s.ex, .int .i64 s.od] 198)
  have hp := Blk.new w5 198 #[.int .i64 s.id, .int .i64 s.ex, .int .i64 s.od]
  have hT6 := hT5.nx hB
  have hC6 := hC5.trans (Chg.of_below (X := fun _ => False) hB) (fun _ _ q => q.elim)
  generalize w5.alloc (.cells #[.int .i64 s.id, .int .i64 s.ex, .int .i64 s.od] 198) = w6 at *
  have p1 : w6.cell? ⟨w5.heap.size, 1, none⟩ = some (.int .i64 s.ex) := hp.cellv 1 rfl
  have lp := hp.lt
  go_wp2_with fail
  go_ret2
  refine ⟨rfl, ⟨b, v5, A, H', hT6, hG2, fun k hk => hX k (by rw [← hv5]; exact hk), fun k hk => Nat.lt_of_lt_of_le (hlt k hk) hC6.size⟩, hC6.mono fun i _ q => hX i (q.elim .inl fun q => .inr (.inr q))⟩
set_option maxRecDepth 100000 in
set_option maxHeartbeats 8000000 in
theorem armedX {w : World} {X : Nat → Prop} {g : Nat} {mo no co : Int} {M : List Slo} (h : TabX w X g mo no co M) (hM : M.length ≤ 100000) (m : Nat) (hm : mo = m) :
    Calls Try.prog 62 #[.pointer (some ⟨g, 0, none⟩)] w fun e w' => ∃ lv, e = .returned lv ∧ Rows intK w' w.heap.size w.heap.size 3 lv (armN (rowsOf M) m) ∧ Below w.heap.size w w' := by
  obtain ⟨b, v, A, H, hT, hG, hX, hlt⟩ := h
  have hrel := arm_rel hG m hm
  have hmo := hG.hmo
  have c3 : w.cell? ⟨g, 3, none⟩ = some (.map (some b)) := hT.blk.cellv 3 rfl
  have ltg := hT.ltg
  have hB := (Below.refl w.heap.size w).alloc (Nat.le_refl _) (.cells #[.map (some b)] 98)
  have hp := Blk.new w 98 #[.map (some b)]
  have hE := (hT.nx hB).ent
  have hAl : A.length ≤ 100000 := by rw [hG.perm.length_eq]; exact hM
  have hids : (A.map sloE).map Prod.fst = (A.map Slo.id).map (Value.int .i64) := by rw [List.map_map, List.map_map]; rfl
  have hwf : ∀ z ∈ armN (rowsOf M) m, (Lit.int .i64 z).wf = true := fun z hz => by
    obtain ⟨i, hi, rfl, -⟩ := (armN_mem _ _ _).1 hz
    exact WalkArith.wf_i64 (by omega)
  have hal := armN_len (rowsOf M) m
  go_enter Try.func62, Try.ntmps62
  go_wp2_with (first
    | (go_at_call 134; refine (madeT_in hT).mono ?_; rintro e w' ⟨rfl, rfl⟩)
    | (go_at_call 140; refine (keysT_any w b).mono ?_; rintro e w5 ⟨rfl, rfl⟩)
    | (go_at_call 139; refine (sortedT_any _ w.heap.size b (A.map sloE) (A.map Slo.id) hp.lt (hp.cellv 0 rfl) hE hids (by rw [List.length_map]; omega)).mono ?_; rintro e w7 ⟨lv, rfl, hown, hB7⟩))
  go_ret
  have hlen : (A.map Slo.id).length = (armN (rowsOf M) m).length := by rw [← hrel, List.length_mergeSort]
  rw [hrel, hlen, ← int_flat] at hown
  have hz := hB.size
  exact ⟨_, rfl, (show Rows intK w7 _ _ 3 lv (armN (rowsOf M) m) from ⟨hown, fun z hz => hwf z hz⟩).less hz hz, hB.trans (hB7.mono hz)⟩
end Go.Proofs.Ytejgekoinbdhjaa
