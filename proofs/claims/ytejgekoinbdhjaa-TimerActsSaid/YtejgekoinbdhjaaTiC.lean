/- timer: old. -/
import Derived.Test.YtejgekoinbdhjaaTiB
import Derived.Laws.StructEq
namespace Go.Proofs.Ytejgekoinbdhjaa
set_option linter.unusedVariables false
open Go Go.RowKit Go.Maps

@[go_sem high] theorem neq_alarm (a b c d : Int) (w : World) : (binOp .neq 196 (.agg #[.int .i64 a, .int .i64 b]) (.agg #[.int .i64 c, .int .i64 d])).run Try.prog w = .ok (.bool (!(a == c && b == d))) w := by
  have h1 : a = c ∨ a ≠ c := Decidable.em _
  rcases h1 with rfl | h1
  · go_simp
    by_cases h2 : b = d <;> simp [h2]
  · have : (a == c) = false := by simpa using h1
    go_simp
theorem in_map {A : List Slo} {z : Int} {u : Value} (h : (Value.int .i64 z, u) ∈ A.map sloE) : ∃ a ∈ A, a.id = z ∧ u = .agg #[.int .i64 a.ex, .int .i64 a.od] := by
  obtain ⟨a, ha, e⟩ := List.mem_map.1 h
  simp only [sloE, Prod.mk.injEq, Value.int.injEq, true_and] at e
  exact ⟨a, ha, e.1, e.2.symm⟩
theorem same_id : ∀ {A : List Slo}, ((A.map sloE).map Prod.fst).Nodup → ∀ {a b : Slo}, a ∈ A → b ∈ A → a.id = b.id → a = b
  | [], _, _, _, h, _, _ => by cases h
  | c :: A, hn, a, b, ha, hb, e => by
    simp only [List.map_cons, List.nodup_cons] at hn
    have hk : ∀ x ∈ A, x.id ≠ c.id := fun x hx q => hn.1 (by
      rw [List.map_map]
      exact List.mem_map.2 ⟨x, hx, by simp [sloE, q]⟩)
    rcases List.mem_cons.1 ha with rfl | ha
    · rcases List.mem_cons.1 hb with rfl | hb
      · rfl
      · exact absurd e.symm (hk _ hb)
    · rcases List.mem_cons.1 hb with q | hb
      · exact absurd (e.trans (by rw [q])) (hk _ ha)
      · exact same_id hn.2 ha hb e
set_option maxRecDepth 100000 in
set_option maxHeartbeats 2000000 in
theorem oldT_any (w : World) (g b : Nat) (mo no co : Int) (v : Value) (A H : List Slo) (h : TabV w g b mo no co v A H) (s : Slo) (i0 : -9223372036854775808 ≤ s.id) (i1 : s.id ≤ 9223372036854775807) (hod : s.od ≠ 0) :
    Calls Try.prog 177 #[.pointer (some ⟨g, 0, none⟩), .agg #[.int .i64 s.id, .int .i64 s.ex, .int .i64 s.od]] w fun e w' => e = .returned (.bool (decide (s ∉ A))) ∧ Below w.heap.size w w' := by
  have hB := (Below.refl w.heap.size w).alloc (Nat.le_refl _) (.cells #[.int .i64 s.id, .int .i64 s.ex, .int .i64 s.od] 198)
  have hp := Blk.new w 198 #[.int .i64 s.id, .int .i64 s.ex, .int .i64 s.od]
  have h1 := h.alloc (.cells #[.int .i64 s.id, .int .i64 s.ex, .int .i64 s.od] 198)
  go_enter Try.func177, Try.ntmps177
  go_upto_region 1 with (fail)
  generalize w.alloc (.cells #[.int .i64 s.id, .int .i64 s.ex, .int .i64 s.od] 198) = w1 at *
  have p0 : w1.cell? ⟨w.heap.size, 0, none⟩ = some (.int .i64 s.id) := hp.cellv 0 rfl
  have p1 : w1.cell? ⟨w.heap.size, 1, none⟩ = some (.int .i64 s.ex) := hp.cellv 1 rfl
  have p2 : w1.cell? ⟨w.heap.size, 2, none⟩ = some (.int .i64 s.od) := hp.cellv 2 rfl
  have lp := hp.lt
  have ltg := h1.ltg
  have c3 : w1.cell? ⟨g, 3, none⟩ = some (.map (some b)) := h1.blk.cellv 3 rfl
  have hlk : ∃ p q : Int, (!(p == s.ex && q == s.od)) = decide (s ∉ A) ∧ ∀ wq : World, Below w1.heap.size w1 wq → (Instr.lookup 98 (.map (some b)) (.int .i64 s.id) false).run Try.prog wq = .ok (.agg #[.int .i64 p, .int .i64 q]) wq := by
    by_cases hm : ∃ a ∈ A, a.id = s.id
    · obtain ⟨a, ha, e⟩ := hm
      refine ⟨a.ex, a.od, ?_, fun wq hb => ?_⟩
      · by_cases hs : s ∈ A
        · have := same_id h1.ent.nodup ha hs e
          subst this
          simp [hs]
        · have : ¬ (a.ex = s.ex ∧ a.od = s.od) := fun q => hs (by
            have : a = s := by cases a; cases s; simp_all
            exact this ▸ ha)
          simp only [hs, not_false_eq_true, decide_true, Bool.not_eq_true', Bool.and_eq_false_iff, beq_eq_false_iff_ne]
          by_cases q : a.ex = s.ex
          · exact .inr fun q2 => this ⟨q, q2⟩
          · exact .inl q
      · have := (h1.ent.below hb h1.ltb).hit tkey tmap_und (v := .agg #[.int .i64 a.ex, .int .i64 a.od]) (tlit s.id i0 i1) (List.mem_map.2 ⟨a, ha, by simp [sloE, e]⟩) false
        simpa using this
    · refine ⟨0, 0, ?_, fun wq hb => ?_⟩
      · have : s ∉ A := fun q => hm ⟨s, q, rfl⟩
        simp only [this, not_false_eq_true, decide_true, Bool.not_eq_true', Bool.and_eq_false_iff, beq_eq_false_iff_ne]
        exact .inr fun q => hod q.symm
      · have := (h1.ent.below hb h1.ltb).miss tkey tmap_und (alarm_zero wq) (tlit s.id i0 i1) ?_ false
        · simpa using this
        rw [List.map_map]
        intro hx
        obtain ⟨a, ha, e⟩ := List.mem_map.1 hx
        simp only [Function.comp, sloE, Value.int.injEq, true_and] at e
        exact hm ⟨a, ha, e⟩
  obtain ⟨p, q, hpq, hl⟩ := hlk
  replace hpq := Lib.hid hpq
  have hne := neq_alarm p q s.ex s.od
  -- region 1: 0 1 2 3 4 5 6 7 8 9 10
  try refine wp_region_noPanic ?_
  have hs1r : Below w1.heap.size w1 w1.drew := (Below.refl _ _).drew
  refine wp_region_held_drew (S := fun w' => Below w1.heap.size w1 w') (by kernel_rfl) hs1r (fun _ => ?_)
  (refine held_takeA 0 (by rfl) ?_ (by kernel_rfl) (fun _ _ _ h => h) hs1r ?_ ?_; rotate_left; (focus (intro wq hSw; have hrd : ∀ b o, b < w1.heap.size → wq.cell? ⟨b, o, none⟩ = w1.cell? ⟨b, o, none⟩ := (fun b o h => hSw.cell (p := ⟨b, o, none⟩) h); have hrd2 : ∀ b o, b < w1.heap.size → wq.cell? ⟨b, o, none⟩ = w1.cell? ⟨b, o, none⟩ := (fun b o h => Below.cell hSw (p := ⟨b, o, none⟩) h); have hl2 := hl wq hSw; go_simp; try with_reducible rfl; done)); try simp only [Act.put, List.setIfInBounds_toArray, List.set_cons_zero, List.set_cons_succ])
  (refine held_takeA 1 (by rfl) ?_ (by kernel_rfl) (fun _ _ _ h => h) hs1r ?_ ?_; rotate_left; (focus (intro wq hSw; have hrd : ∀ b o, b < w1.heap.size → wq.cell? ⟨b, o, none⟩ = w1.cell? ⟨b, o, none⟩ := (fun b o h => hSw.cell (p := ⟨b, o, none⟩) h); have hrd2 : ∀ b o, b < w1.heap.size → wq.cell? ⟨b, o, none⟩ = w1.cell? ⟨b, o, none⟩ := (fun b o h => Below.cell hSw (p := ⟨b, o, none⟩) h); have hl2 := hl wq hSw; go_simp; try with_reducible rfl; done)); try simp only [Act.put, List.setIfInBounds_toArray, List.set_cons_zero, List.set_cons_succ])
  (refine held_takeA 2 (by rfl) ?_ (by kernel_rfl) (fun _ _ _ h => h) hs1r ?_ ?_; rotate_left; (focus (intro wq hSw; have hrd : ∀ b o, b < w1.heap.size → wq.cell? ⟨b, o, none⟩ = w1.cell? ⟨b, o, none⟩ := (fun b o h => hSw.cell (p := ⟨b, o, none⟩) h); have hrd2 : ∀ b o, b < w1.heap.size → wq.cell? ⟨b, o, none⟩ = w1.cell? ⟨b, o, none⟩ := (fun b o h => Below.cell hSw (p := ⟨b, o, none⟩) h); have hl2 := hl wq hSw; go_simp; try with_reducible rfl; done)); try simp only [Act.put, List.setIfInBounds_toArray, List.set_cons_zero, List.set_cons_succ])
  (refine held_takeA 3 (by rfl) ?_ (by kernel_rfl) (fun _ _ _ h => h) hs1r ?_ ?_; rotate_left; (focus (intro wq hSw; have hrd : ∀ b o, b < w1.heap.size → wq.cell? ⟨b, o, none⟩ = w1.cell? ⟨b, o, none⟩ := (fun b o h => hSw.cell (p := ⟨b, o, none⟩) h); have hrd2 : ∀ b o, b < w1.heap.size → wq.cell? ⟨b, o, none⟩ = w1.cell? ⟨b, o, none⟩ := (fun b o h => Below.cell hSw (p := ⟨b, o, none⟩) h); have hl2 := hl wq hSw; go_simp; try with_reducible rfl; done)); try simp only [Act.put, List.setIfInBounds_toArray, List.set_cons_zero, List.set_cons_succ])
  (refine held_takeA 4 (by rfl) ?_ (by kernel_rfl) (fun _ _ _ h => h) hs1r ?_ ?_; rotate_left; (focus (intro wq hSw; have hrd : ∀ b o, b < w1.heap.size → wq.cell? ⟨b, o, none⟩ = w1.cell? ⟨b, o, none⟩ := (fun b o h => hSw.cell (p := ⟨b, o, none⟩) h); have hrd2 : ∀ b o, b < w1.heap.size → wq.cell? ⟨b, o, none⟩ = w1.cell? ⟨b, o, none⟩ := (fun b o h => Below.cell hSw (p := ⟨b, o, none⟩) h); have hl2 := hl wq hSw; go_simp; try with_reducible rfl; done)); try simp only [Act.put, List.setIfInBounds_toArray, List.set_cons_zero, List.set_cons_succ])
  (refine held_takeA 5 (by rfl) ?_ (by kernel_rfl) (fun _ _ _ h => h) hs1r ?_ ?_; rotate_left; (focus (intro wq hSw; have hrd : ∀ b o, b < w1.heap.size → wq.cell? ⟨b, o, none⟩ = w1.cell? ⟨b, o, none⟩ := (fun b o h => hSw.cell (p := ⟨b, o, none⟩) h); have hrd2 : ∀ b o, b < w1.heap.size → wq.cell? ⟨b, o, none⟩ = w1.cell? ⟨b, o, none⟩ := (fun b o h => Below.cell hSw (p := ⟨b, o, none⟩) h); have hl2 := hl wq hSw; go_simp; try with_reducible rfl; done)); try simp only [Act.put, List.setIfInBounds_toArray, List.set_cons_zero, List.set_cons_succ])
  (refine held_takeA 6 (by rfl) ?_ (by kernel_rfl) (fun _ _ _ h => h) hs1r ?_ ?_; rotate_left; (focus (intro wq hSw; have hrd : ∀ b o, b < w1.heap.size → wq.cell? ⟨b, o, none⟩ = w1.cell? ⟨b, o, none⟩ := (fun b o h => hSw.cell (p := ⟨b, o, none⟩) h); have hrd2 : ∀ b o, b < w1.heap.size → wq.cell? ⟨b, o, none⟩ = w1.cell? ⟨b, o, none⟩ := (fun b o h => Below.cell hSw (p := ⟨b, o, none⟩) h); have hl2 := hl wq hSw; go_simp; try with_reducible rfl; done)); try simp only [Act.put, List.setIfInBounds_toArray, List.set_cons_zero, List.set_cons_succ])
  (refine held_takeA 7 (by rfl) ?_ (by kernel_rfl) (fun _ _ _ h => h) hs1r ?_ ?_; rotate_left; (focus (intro wq hSw; have hrd : ∀ b o, b < w1.heap.size → wq.cell? ⟨b, o, none⟩ = w1.cell? ⟨b, o, none⟩ := (fun b o h => hSw.cell (p := ⟨b, o, none⟩) h); have hrd2 : ∀ b o, b < w1.heap.size → wq.cell? ⟨b, o, none⟩ = w1.cell? ⟨b, o, none⟩ := (fun b o h => Below.cell hSw (p := ⟨b, o, none⟩) h); have hl2 := hl wq hSw; go_simp; try with_reducible rfl; done)); try simp only [Act.put, List.setIfInBounds_toArray, List.set_cons_zero, List.set_cons_succ])
  (refine held_takeA 8 (by rfl) ?_ (by kernel_rfl) (fun _ _ _ h => h) hs1r ?_ ?_; rotate_left; (focus (intro wq hSw; have hrd : ∀ b o, b < w1.heap.size → wq.cell? ⟨b, o, none⟩ = w1.cell? ⟨b, o, none⟩ := (fun b o h => hSw.cell (p := ⟨b, o, none⟩) h); have hrd2 : ∀ b o, b < w1.heap.size → wq.cell? ⟨b, o, none⟩ = w1.cell? ⟨b, o, none⟩ := (fun b o h => Below.cell hSw (p := ⟨b, o, none⟩) h); have hl2 := hl wq hSw; go_simp; try with_reducible rfl; done)); try simp only [Act.put, List.setIfInBounds_toArray, List.set_cons_zero, List.set_cons_succ])
  (refine held_takeA 9 (by rfl) ?_ (by kernel_rfl) (fun _ _ _ h => h) hs1r ?_ ?_; rotate_left; (focus (intro wq hSw; have hrd : ∀ b o, b < w1.heap.size → wq.cell? ⟨b, o, none⟩ = w1.cell? ⟨b, o, none⟩ := (fun b o h => hSw.cell (p := ⟨b, o, none⟩) h); have hrd2 : ∀ b o, b < w1.heap.size → wq.cell? ⟨b, o, none⟩ = w1.cell? ⟨b, o, none⟩ := (fun b o h => Below.cell hSw (p := ⟨b, o, none⟩) h); have hl2 := hl wq hSw; go_simp; try with_reducible rfl; done)); try simp only [Act.put, List.setIfInBounds_toArray, List.set_cons_zero, List.set_cons_succ])
  (refine held_takeA 10 (by rfl) ?_ (by kernel_rfl) (fun _ _ _ h => h) hs1r ?_ ?_; rotate_left; (focus (intro wq hSw; have hrd : ∀ b o, b < w1.heap.size → wq.cell? ⟨b, o, none⟩ = w1.cell? ⟨b, o, none⟩ := (fun b o h => hSw.cell (p := ⟨b, o, none⟩) h); have hrd2 : ∀ b o, b < w1.heap.size → wq.cell? ⟨b, o, none⟩ = w1.cell? ⟨b, o, none⟩ := (fun b o h => Below.cell hSw (p := ⟨b, o, none⟩) h); have hl2 := hl wq hSw; go_simp; try with_reducible rfl; done)); try simp only [Act.put, List.setIfInBounds_toArray, List.set_cons_zero, List.set_cons_succ])
  refine wpAnyH_done (by kernel_rfl) ?_ _
  try refine NoPanic.normal ?_
  go_wp2_with fail
  go_ret
  exact ⟨ret_bool (by rw [← hpq.out, Bool.not_and]), hB.drew⟩
end Go.Proofs.Ytejgekoinbdhjaa
