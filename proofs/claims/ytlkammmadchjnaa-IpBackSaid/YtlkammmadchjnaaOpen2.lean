/- What a law's arguments read as: slices and structs within others. -/
import Derived.Test.YtlkammmadchjnaaOpen
namespace Go.Proofs.Ytlkammmadchjnaa
set_option linter.unusedVariables false
open Go.ChangeShapes Go.WideShapes Go.ChangeAt Go.RowKit

section
variable {H : Type} {enc : TypeId × Value → H} {P : Program} {W : World} {base : Nat} {spare : Nat → Bool} {held : Bool} {r : Reach} {b0 : Nat}
/-- integers in a slice that is a part of something. -/
theorem field_nums {t e : TypeId} {k : IntKind} {u : Value} {n : Nat} {y : DataW H × List MemPlace} (ht : P.underlying t = some (.slice e)) (he : P.underlying e = some (.int k)) (hC : P.cellsOf e = 1)
    (h : DataW.trod enc P W base spare held n t [u] = some y) : ∃ A len cap zs, u = .slice A len cap ∧ len ≤ cap ∧ cap ≤ maxLen ∧ Nums k W W.heap.size A len zs := by
  rcases open_ints ht he hC h with ⟨hcs, _⟩ | ⟨x, l, c, zs, hcs, _, hl, hm, hz, _, hcell, hwz⟩
  · injection hcs with hcs
    exact ⟨_, _, _, [], hcs, Nat.le_refl _, Nat.zero_le _, rfl, by simp, fun h => absurd h (by omega)⟩
  · injection hcs with hcs
    have hz2 : l ≤ zs.length := by rw [hz]; split <;> omega
    refine ⟨_, _, _, zs.take l, hcs, hl, hm, by simp [hz2], fun z hz => hwz z (List.mem_of_mem_take hz), fun hn => ?_⟩
    obtain ⟨b, off, rfl, hc⟩ := ints_at hcell (by omega)
    have h0 := hc 0 (by omega)
    refine ⟨b, off, rfl, lt_of_cell h0, fun j hj => ?_⟩
    rw [hc j (by omega)]
    simp [nAt, hj]
theorem field_byt {t e : TypeId} {u : Value} {n : Nat} {y : DataW H × List MemPlace} (ht : P.underlying t = some (.slice e)) (he : P.underlying e = some (.int .u8)) (hC : P.cellsOf e = 1)
    (h : DataW.trod enc P W base spare held n t [u] = some y) : ∃ A len cap l, u = .slice A len cap ∧ len ≤ cap ∧ cap ≤ maxLen ∧ Byt W W.heap.size A len l := by
  obtain ⟨A, len, cap, zs, h1, h2, h3, h4⟩ := field_nums ht he hC h
  obtain ⟨l, hl⟩ := h4.byt
  exact ⟨A, len, cap, l, h1, h2, h3, hl⟩
/-- whatever elements, in a slice that is a part of something. -/
theorem field_flat {t e : TypeId} {C : Nat} {u : Value} {n : Nat} {y : DataW H × List MemPlace} (ht : P.underlying t = some (.slice e)) (hC : P.cellsOf e = C) (hC0 : 0 < C)
    (h : DataW.trod enc P W base spare held n t [u] = some y) :
    ∃ A len cap vs, u = .slice A len cap ∧ len ≤ cap ∧ cap ≤ maxLen ∧ Flat W W.heap.size A (len * C) vs ∧
      ∀ i, i < len → ∃ n y, DataW.trod enc P W base spare held n e ((List.range C).map fun j => vs (i * C + j)) = some y := by
  rcases Go.Deep.open_slice ht h with ⟨hcs, _⟩ | ⟨a, len, cap, m, n, D, Pl, hcs, _, hl, hm, hmm, _, hi⟩
  · injection hcs with hcs
    exact ⟨_, _, _, fun _ => undef, hcs, Nat.le_refl _, Nat.zero_le _, fun h => absurd h (by omega), fun i hi => absurd hi (by omega)⟩
  · injection hcs with hcs
    have hml : len ≤ m := by rw [hmm]; split <;> omega
    have hcell : ∀ j, j < len * C → ∃ u, W.cell? (a.add (j / C * C) |>.add (j % C)) = some u := by
      intro j hj
      have hjl : j / C < len := Nat.div_lt_of_lt_mul (by rw [Nat.mul_comm]; exact hj)
      obtain ⟨cs', hc, _⟩ := hi (j / C) (by omega)
      rw [hC] at hc
      obtain ⟨_, hlen, hat⟩ := World.cells?_some hc
      have hm : j % C < C := Nat.mod_lt _ hC0
      exact ⟨cs'[j % C]'(by omega), by rw [hat _ hm, List.getElem?_eq_getElem]⟩
    rcases Nat.eq_zero_or_pos len with h0 | h0
    · subst h0
      exact ⟨_, _, _, fun _ => undef, hcs, Nat.zero_le _, hm, fun h => absurd h (by simp), fun i hi => absurd hi (by omega)⟩
    · obtain ⟨b, off, spot⟩ := a
      have hspot : spot = none := by
        have hp : 0 < len * C := Nat.mul_pos h0 hC0
        obtain ⟨u, hu⟩ := hcell 0 hp
        rw [Nat.zero_div, Nat.zero_mul, Nat.zero_mod] at hu
        simpa [Addr.add] using World.cell?_spot hu
      subst hspot
      have hadd : ∀ j, (Addr.add ⟨b, off, none⟩ (j / C * C)).add (j % C) = ⟨b, off + j, none⟩ := by
        intro j
        rw [Go.WideShapes.add_plain, Go.WideShapes.add_plain, Nat.add_assoc, Nat.div_add_mod']
      refine ⟨_, _, _, fun j => (W.cell? ⟨b, off + j, none⟩).getD undef, hcs, hl, hm, fun _ => ?_, fun i hil => ?_⟩
      · have hp : 0 < len * C := Nat.mul_pos h0 hC0
        obtain ⟨u, hu⟩ := hcell 0 hp
        rw [hadd] at hu
        refine ⟨b, off, rfl, lt_of_cell hu, fun j hj => ?_⟩
        obtain ⟨u, hu⟩ := hcell j hj
        rw [hadd] at hu
        simp [hu]
      · obtain ⟨cs', hc, ht'⟩ := hi i (by omega)
        rw [hC] at hc
        obtain ⟨_, hlen, hat⟩ := World.cells?_some hc
        refine ⟨n, (D i, Pl i), ?_⟩
        have e : ((List.range C).map fun j => (W.cell? ⟨b, off + (i * C + j), none⟩).getD undef) = cs' := by
          apply List.ext_getElem
          · simp [hlen]
          · intro j h1 h2
            have hj : j < C := by simpa using h1
            simp only [List.getElem_map, List.getElem_range]
            have := hat j hj
            rw [Go.WideShapes.add_plain, Go.WideShapes.add_plain, Nat.add_assoc] at this
            rw [this, List.getElem?_eq_getElem h2]; rfl
        rw [e]
        exact ht'
/-- structs of one-cell fields, in a slice that is a part of something. -/
theorem field_rows {t e : TypeId} {fs : Array Field} {u : Value} {n : Nat} {y : DataW H × List MemPlace} (ht : P.underlying t = some (.slice e)) (hs : P.underlying e = some (.struct fs)) (hone : Go.Deep.oneCellFields P fs = true) (hC : P.cellsOf e = fs.size) (hC0 : 0 < fs.size)
    (h : DataW.trod enc P W base spare held n t [u] = some y) :
    ∃ A len cap vs, u = .slice A len cap ∧ len ≤ cap ∧ cap ≤ maxLen ∧ Flat W W.heap.size A (len * fs.size) vs ∧
      ∀ i, i < len → ∀ (j : Nat) (f : Field), fs[j]? = some f → ∃ n y, DataW.trod enc P W base spare held n f.type [vs (i * fs.size + j)] = some y := by
  obtain ⟨A, len, cap, vs, rfl, h1, h2, h3, h4⟩ := field_flat ht hC hC0 h
  refine ⟨A, len, cap, vs, rfl, h1, h2, h3, fun i hi j f hj => ?_⟩
  obtain ⟨n0, y0, hy⟩ := h4 i hi
  obtain ⟨xs, n, _, _, _, hlen, hg⟩ := DataW.trod_struct hs hy
  obtain ⟨ho, hk⟩ := Go.Deep.hone_of hone j f hj
  have hjl : j < fs.size := (Array.getElem?_eq_some_iff.1 hj).1
  have h5 := hg j f hj
  rw [ho, hk] at h5
  have h6 : (((List.range fs.size).map fun j => vs (i * fs.size + j)).drop j).take 1 = [vs (i * fs.size + j)] := by
    rw [List.drop_eq_getElem_cons (by simpa using hjl)]
    simp
  rw [h6] at h5
  have hxl : j < xs.length := by omega
  rw [List.getElem?_eq_getElem hxl] at h5
  exact ⟨_, _, h5⟩
end
end Go.Proofs.Ytlkammmadchjnaa
