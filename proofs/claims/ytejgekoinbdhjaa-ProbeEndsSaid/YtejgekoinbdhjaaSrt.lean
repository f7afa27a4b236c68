/- slices.Sorted of maps.Keys over a map of known entries; maps.Clone of it. -/
import Derived.Test.YtejgekoinbdhjaaSrtL
namespace Go.Proofs.Ytejgekoinbdhjaa
set_option linter.unusedVariables false
open Go Go.RowKit Go.Maps Go.Sort Go.Shelf Go.WideElems

theorem keyi : Keyed Try.prog 3 := int_keyed Try.underlying3
def anyR (_ : Value) : Option (DataW Unit × List MemPlace) := some (.nil, [])
/-- a map of known entries whose keys are these numbers, as the shelf's words have it. -/
theorem ent_owns {w : World} {b : Nat} {l : List (Value × Value)} {ids : List Int} (h : Ent Try.prog 3 w b l) (hids : l.map Prod.fst = ids.map (Value.int .i64)) (hn : l.length ≤ 1000000) :
    ∃ D : DataW Unit, w.ownsMap Try.prog 3 anyR b l.length D ∧ Maps.size D = l.length ∧ (intKeys D).Perm ids := by
  obtain ⟨es, clock, hb, hs, hk, rfl⟩ := h
  have hlen : es.size ≤ 1000000 := by simpa using hn
  have hF : Fit Try.prog 3 anyR es clock := ⟨by unfold maxLen; omega, hs, fun x hx => by
    obtain ⟨kl, hkl⟩ := hk x hx
    exact ⟨(kl, .nil), by simp [WideElems.rd, hkl, anyR]⟩⟩
  refine ⟨_, ⟨es, clock, hb, hF, by simp, rfl⟩, ?_, ?_⟩
  · rw [size_eq, (Go.WideShapes.sorted_perm _).length_eq]; simp
  · have h1 := (Go.WideShapes.sorted_perm (es.toList.map (rg Try.prog 3 anyR))).map fun p : Lit × DataW Unit => Go.intOf p.1
    refine h1.trans ?_
    have e : (es.toList.map (rg Try.prog 3 anyR)).map (fun p : Lit × DataW Unit => Go.intOf p.1) = ids := by
      have inj : ∀ a c : List Int, a.map (Value.int .i64) = c.map (Value.int .i64) → a = c := by
        intro a
        induction a with
        | nil => intro c h; cases c with
          | nil => rfl
          | cons _ _ => simp at h
        | cons x a ih => intro c h; cases c with
          | nil => simp at h
          | cons y c => simp at h; rw [h.1, ih c (by simpa using h.2)]
      refine inj _ _ ?_
      rw [← hids, List.map_map, List.map_map, List.map_map]
      refine List.map_congr_left fun x hx => ?_
      obtain ⟨kl, hkl⟩ := hk x hx
      obtain ⟨z, e1, e2, _⟩ := Maps.keyOf_i64 Try.underlying3 hkl
      have e3 : (WideElems.rg Try.prog 3 anyR x).1 = kl := by simp [WideElems.rg, WideElems.rd, hkl, anyR]
      show Value.int .i64 (Go.intOf (WideElems.rg Try.prog 3 anyR x).1) = x.key
      rw [e3, e2, e1]
      rfl
    rw [e]
theorem keysP_any (w : World) (b : Nat) : Calls Try.prog 167 #[.map (some b)] w fun e w' => e = .returned (.func (.func 187) #[] #[.pointer (some ⟨w.heap.size, 0, none⟩)]) ∧ w' = w.alloc (.cells #[.map (some b)] 29) :=
  callsIn_wide.1 (AnyZI.keys_in Try.keysP Fence.wide 5 trivial rfl (some b) w)
theorem sortsP (m : Nat) : AnyZI.SortsIn Try.prog Try.sortedI_ren Fence.wide m :=
  ⟨fun blk off cap ss W hH hblk hsz => callsIn_wide.2 (AnyM.slices_Sort_int Try.sortI blk off cap ss W hH hblk hsz),
   fun p cap W => callsIn_wide.2 (AnyM.slices_Sort_int_none Try.sortI p cap W)⟩
set_option maxHeartbeats 1000000 in
theorem sortedP_any (w : World) (g b : Nat) (l : List (Value × Value)) (ids : List Int) (hgl : g < w.heap.size) (hg : w.cell? ⟨g, 0, none⟩ = some (.map (some b))) (h : Ent Try.prog 3 w b l) (hids : l.map Prod.fst = ids.map (Value.int .i64)) (hn : l.length ≤ 1000000) :
    Calls Try.prog 139 #[.func (.func 187) #[] #[.pointer (some ⟨g, 0, none⟩)]] w fun e w' => ∃ v, e = .returned v ∧ w'.ownsRow w.heap.size 3 1 v ids.length ((ids.mergeSort leI).map (Value.int .i64)) ∧ Below w.heap.size w w' := by
  obtain ⟨D, hown, hsz, hp⟩ := ent_owns h hids hn
  have hseq : SeqGives Fence.wide 2 Try.prog 187 #[.pointer (some ⟨g, 0, none⟩)] encZ (fun ss => ss.Perm (intKeys D)) (Maps.size D) w :=
    AnyZI.keys_gives (ρ := Try.keysP_ren) { Try.keysP with } Fence.wide _ trivial rfl (by omega) g b l.length D w hgl hg hown
  have cS := AnyZI.sorted_in Try.sortedI Fence.wide 5 trivial trivial trivial trivial rfl (by omega) (sortsP _) (enters_of Try.func180 (by kernel_rfl) rfl) 187 #[.pointer (some ⟨g, 0, none⟩)] trivial (enters_of Try.func187 (by kernel_rfl) rfl) _ _ (by rw [hsz]; unfold maxLen; omega) (by rw [hsz]; omega) _ hseq
  refine (callsIn_wide.1 cS).mono ?_
  rintro e w' ⟨v, ss, rfl, hS, hrow, hnil, hb⟩
  have hss : ss.Perm ids := hS.trans hp
  rw [mergeSort_of_perm_i hss, hss.length_eq] at hrow
  exact ⟨v, rfl, hrow, hb⟩
theorem keysT_any (w : World) (b : Nat) : Calls Try.prog 140 #[.map (some b)] w fun e w' => e = .returned (.func (.func 181) #[] #[.pointer (some ⟨w.heap.size, 0, none⟩)]) ∧ w' = w.alloc (.cells #[.map (some b)] 98) :=
  callsIn_wide.1 (AnyZI.keys_in Try.keysT Fence.wide 5 trivial rfl (some b) w)
theorem sortsT (m : Nat) : AnyZI.SortsIn Try.prog Try.sortedI_ren Fence.wide m :=
  ⟨fun blk off cap ss W hH hblk hsz => callsIn_wide.2 (AnyM.slices_Sort_int Try.sortI blk off cap ss W hH hblk hsz),
   fun p cap W => callsIn_wide.2 (AnyM.slices_Sort_int_none Try.sortI p cap W)⟩
set_option maxHeartbeats 1000000 in
theorem sortedT_any (w : World) (g b : Nat) (l : List (Value × Value)) (ids : List Int) (hgl : g < w.heap.size) (hg : w.cell? ⟨g, 0, none⟩ = some (.map (some b))) (h : Ent Try.prog 3 w b l) (hids : l.map Prod.fst = ids.map (Value.int .i64)) (hn : l.length ≤ 1000000) :
    Calls Try.prog 139 #[.func (.func 181) #[] #[.pointer (some ⟨g, 0, none⟩)]] w fun e w' => ∃ v, e = .returned v ∧ w'.ownsRow w.heap.size 3 1 v ids.length ((ids.mergeSort leI).map (Value.int .i64)) ∧ Below w.heap.size w w' := by
  obtain ⟨D, hown, hsz, hp⟩ := ent_owns h hids hn
  have hseq : SeqGives Fence.wide 2 Try.prog 181 #[.pointer (some ⟨g, 0, none⟩)] encZ (fun ss => ss.Perm (intKeys D)) (Maps.size D) w :=
    AnyZI.keys_gives (ρ := Try.keysT_ren) { Try.keysT with } Fence.wide _ trivial rfl (by omega) g b l.length D w hgl hg hown
  have cS := AnyZI.sorted_in Try.sortedI Fence.wide 5 trivial trivial trivial trivial rfl (by omega) (sortsT _) (enters_of Try.func180 (by kernel_rfl) rfl) 181 #[.pointer (some ⟨g, 0, none⟩)] trivial (enters_of Try.func181 (by kernel_rfl) rfl) _ _ (by rw [hsz]; unfold maxLen; omega) (by rw [hsz]; omega) _ hseq
  refine (callsIn_wide.1 cS).mono ?_
  rintro e w' ⟨v, ss, rfl, hS, hrow, hnil, hb⟩
  have hss : ss.Perm ids := hS.trans hp
  rw [mergeSort_of_perm_i hss, hss.length_eq] at hrow
  exact ⟨v, rfl, hrow, hb⟩
theorem keysS_any (w : World) (b : Nat) : Calls Try.prog 154 #[.map (some b)] w fun e w' => e = .returned (.func (.func 184) #[] #[.pointer (some ⟨w.heap.size, 0, none⟩)]) ∧ w' = w.alloc (.cells #[.map (some b)] 122) :=
  callsIn_wide.1 (AnyZI.keys_in Try.keysS Fence.wide 5 trivial rfl (some b) w)
theorem sortsS (m : Nat) : AnyZI.SortsIn Try.prog Try.sortedI_ren Fence.wide m :=
  ⟨fun blk off cap ss W hH hblk hsz => callsIn_wide.2 (AnyM.slices_Sort_int Try.sortI blk off cap ss W hH hblk hsz),
   fun p cap W => callsIn_wide.2 (AnyM.slices_Sort_int_none Try.sortI p cap W)⟩
set_option maxHeartbeats 1000000 in
theorem sortedS_any (w : World) (g b : Nat) (l : List (Value × Value)) (ids : List Int) (hgl : g < w.heap.size) (hg : w.cell? ⟨g, 0, none⟩ = some (.map (some b))) (h : Ent Try.prog 3 w b l) (hids : l.map Prod.fst = ids.map (Value.int .i64)) (hn : l.length ≤ 1000000) :
    Calls Try.prog 139 #[.func (.func 184) #[] #[.pointer (some ⟨g, 0, none⟩)]] w fun e w' => ∃ v, e = .returned v ∧ w'.ownsRow w.heap.size 3 1 v ids.length ((ids.mergeSort leI).map (Value.int .i64)) ∧ Below w.heap.size w w' := by
  obtain ⟨D, hown, hsz, hp⟩ := ent_owns h hids hn
  have hseq : SeqGives Fence.wide 2 Try.prog 184 #[.pointer (some ⟨g, 0, none⟩)] encZ (fun ss => ss.Perm (intKeys D)) (Maps.size D) w :=
    AnyZI.keys_gives (ρ := Try.keysS_ren) { Try.keysS with } Fence.wide _ trivial rfl (by omega) g b l.length D w hgl hg hown
  have cS := AnyZI.sorted_in Try.sortedI Fence.wide 5 trivial trivial trivial trivial rfl (by omega) (sortsS _) (enters_of Try.func180 (by kernel_rfl) rfl) 184 #[.pointer (some ⟨g, 0, none⟩)] trivial (enters_of Try.func184 (by kernel_rfl) rfl) _ _ (by rw [hsz]; unfold maxLen; omega) (by rw [hsz]; omega) _ hseq
  refine (callsIn_wide.1 cS).mono ?_
  rintro e w' ⟨v, ss, rfl, hS, hrow, hnil, hb⟩
  have hss : ss.Perm ids := hS.trans hp
  rw [mergeSort_of_perm_i hss, hss.length_eq] at hrow
  exact ⟨v, rfl, hrow, hb⟩
theorem cloneP_any {K : TypeId} (w : World) (b : Nat) (l : List (Value × Value)) (h : Ent Try.prog K w b l) : Calls Try.prog 99 #[.map (some b)] w fun e w' => e = .returned (.map (some w.heap.size)) ∧ Ent Try.prog K w' w.heap.size l ∧ Below w.heap.size w w' := by
  obtain ⟨es, clock, hb, hs, hk, rfl⟩ := h
  refine (AnyW.maps_Clone Try.cloneP b es clock w hb).mono ?_
  rintro e w' ⟨rfl, rfl⟩
  exact ⟨rfl, ⟨es, clock, World.alloc_heap_new w _, hs, hk, rfl⟩, (Below.refl _ _).alloc (Nat.le_refl _) _⟩
theorem cloneT_any {K : TypeId} (w : World) (b : Nat) (l : List (Value × Value)) (h : Ent Try.prog K w b l) : Calls Try.prog 141 #[.map (some b)] w fun e w' => e = .returned (.map (some w.heap.size)) ∧ Ent Try.prog K w' w.heap.size l ∧ Below w.heap.size w w' := by
  obtain ⟨es, clock, hb, hs, hk, rfl⟩ := h
  refine (AnyW.maps_Clone Try.cloneT b es clock w hb).mono ?_
  rintro e w' ⟨rfl, rfl⟩
  exact ⟨rfl, ⟨es, clock, World.alloc_heap_new w _, hs, hk, rfl⟩, (Below.refl _ _).alloc (Nat.le_refl _) _⟩
theorem cloneS_any {K : TypeId} (w : World) (b : Nat) (l : List (Value × Value)) (h : Ent Try.prog K w b l) : Calls Try.prog 155 #[.map (some b)] w fun e w' => e = .returned (.map (some w.heap.size)) ∧ Ent Try.prog K w' w.heap.size l ∧ Below w.heap.size w w' := by
  obtain ⟨es, clock, hb, hs, hk, rfl⟩ := h
  refine (AnyW.maps_Clone Try.cloneS b es clock w hb).mono ?_
  rintro e w' ⟨rfl, rfl⟩
  exact ⟨rfl, ⟨es, clock, World.alloc_heap_new w _, hs, hk, rfl⟩, (Below.refl _ _).alloc (Nat.le_refl _) _⟩
theorem cloneA_any {K : TypeId} (w : World) (b : Nat) (l : List (Value × Value)) (h : Ent Try.prog K w b l) : Calls Try.prog 156 #[.map (some b)] w fun e w' => e = .returned (.map (some w.heap.size)) ∧ Ent Try.prog K w' w.heap.size l ∧ Below w.heap.size w w' := by
  obtain ⟨es, clock, hb, hs, hk, rfl⟩ := h
  refine (AnyW.maps_Clone Try.cloneA b es clock w hb).mono ?_
  rintro e w' ⟨rfl, rfl⟩
  exact ⟨rfl, ⟨es, clock, World.alloc_heap_new w _, hs, hk, rfl⟩, (Below.refl _ _).alloc (Nat.le_refl _) _⟩
end Go.Proofs.Ytejgekoinbdhjaa
