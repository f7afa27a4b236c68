/- What a law's arguments read as: over any program. -/
import Derived.Test.YtlkammmadchjnaaMem
import Derived.ProofKit
import Derived.OpenShut
import Derived.ShutString
import Derived.ChangeOld
import Derived.Lib.SmallJoins
import Derived.Deep.Fields
import Derived.Deep.Slices
namespace Go.Proofs.Ytlkammmadchjnaa
set_option linter.unusedVariables false
open Go.ChangeShapes Go.WideShapes Go.ChangeAt Go.RowKit

/-- the number at a place, 0 beyond. -/
def nAt (l : List Int) (j : Nat) : Int := l[j]?.getD 0
theorem nAt_get (l : List Int) (j : Nat) (h : j < l.length) : nAt l j = l[j] := by unfold nAt; rw [List.getElem?_eq_getElem h]; rfl
theorem nAt_mem (l : List Int) (j : Nat) (h : j < l.length) : nAt l j ∈ l := by rw [nAt_get l j h]; exact List.getElem_mem h
/-- the slice value '.slice A n c' holds n numbers of kind k (the first n of them), in a block below B. -/
def Nums (k : IntKind) (w : World) (B : Nat) (A : Option Addr) (n : Nat) (zs : List Int) : Prop :=
  zs.length = n ∧ (∀ z ∈ zs, (Lit.int k z).wf = true) ∧ (0 < n → ∃ b off, A = some ⟨b, off, none⟩ ∧ b < B ∧ ∀ j, j < n → w.cell? ⟨b, off + j, none⟩ = some (.int k (nAt zs j)))

section
variable {w w' : World} {B B' n : Nat} {A : Option Addr} {k : IntKind} {zs : List Int}
theorem Nums.keep (h : Nums k w B A n zs) (hk : ∀ p : Addr, p.block < B → w'.cell? p = w.cell? p) : Nums k w' B A n zs :=
  ⟨h.1, h.2.1, fun hn => by
    obtain ⟨b, off, e, hb, hc⟩ := h.2.2 hn
    exact ⟨b, off, e, hb, fun j hj => (hk _ hb).trans (hc j hj)⟩⟩
theorem Nums.below (h : Nums k w B A n zs) (hb : Below B w w') : Nums k w' B A n zs := h.keep fun _ hp => hb.cell hp
theorem Nums.more (h : Nums k w B A n zs) (hB : B ≤ B') : Nums k w B' A n zs :=
  ⟨h.1, h.2.1, fun hn => by
    obtain ⟨b, off, e, hb, hc⟩ := h.2.2 hn
    exact ⟨b, off, e, by omega, hc⟩⟩
end

/-- m cells in a row from A on, in a block below B: 'vs j' is the j-th. -/
def Flat (w : World) (B : Nat) (A : Option Addr) (m : Nat) (vs : Nat → Value) : Prop :=
  0 < m → ∃ b off, A = some ⟨b, off, none⟩ ∧ b < B ∧ ∀ j, j < m → w.cell? ⟨b, off + j, none⟩ = some (vs j)
section
variable {w w' : World} {B B' m : Nat} {A : Option Addr} {vs : Nat → Value}
theorem Flat.keep (h : Flat w B A m vs) (hk : ∀ p : Addr, p.block < B → w'.cell? p = w.cell? p) : Flat w' B A m vs := fun hn => by
    obtain ⟨b, off, e, hb, hc⟩ := h hn
    exact ⟨b, off, e, hb, fun j hj => (hk _ hb).trans (hc j hj)⟩
theorem Flat.below (h : Flat w B A m vs) (hb : Below B w w') : Flat w' B A m vs := h.keep fun _ hp => hb.cell hp
theorem Flat.more (h : Flat w B A m vs) (hB : B ≤ B') : Flat w B' A m vs := fun hn => by
    obtain ⟨b, off, e, hb, hc⟩ := h hn
    exact ⟨b, off, e, by omega, hc⟩
end

section
variable {H : Type} {enc : TypeId × Value → H} {P : Program} {W : World} {base : Nat} {spare : Nat → Bool} {held : Bool} {r : Reach} {b0 : Nat}

theorem lt_of_cell {p : Addr} {v : Value} (h : W.cell? p = some v) : p.block < W.heap.size := by
  rcases Nat.lt_or_ge p.block W.heap.size with hlt | hge
  · exact hlt
  · simp [World.cell?, Array.getElem?_eq_none hge] at h

theorem open_nums {t e : TypeId} {k : IntKind} {v : Value} {d : DataW H} {p : List MemPlace} (ht : P.underlying t = some (.slice e)) (he : P.underlying e = some (.int k)) (hC : P.cellsOf e = 1)
    (hv : Value.okWide P W r b0 t v) (h : DataW.Trod enc P W base spare held t v d p) :
    ∃ A len cap zs, v = .slice A len cap ∧ len ≤ cap ∧ cap ≤ maxLen ∧ Nums k W W.heap.size A len zs := by
  obtain ⟨A, len, cap, rfl⟩ := okWide_slice ht hv
  obtain ⟨fuel, hf⟩ := h
  rcases open_ints ht he hC hf with ⟨hcs, _⟩ | ⟨x, l, c, zs, hcs, _, hl, hm, hz, _, hcell, hwz⟩
  · simp [Value.cells] at hcs
    obtain ⟨rfl, rfl, rfl⟩ := hcs
    exact ⟨_, _, _, [], rfl, Nat.le_refl _, Nat.zero_le _, rfl, by simp, fun h => absurd h (by omega)⟩
  · simp [Value.cells] at hcs
    obtain ⟨rfl, rfl, rfl⟩ := hcs
    have hz2 : len ≤ zs.length := by rw [hz]; split <;> omega
    refine ⟨_, _, _, zs.take len, rfl, hl, hm, by simp [hz2], fun z hz => hwz z (List.mem_of_mem_take hz), fun hn => ?_⟩
    obtain ⟨b, off, rfl, hc⟩ := ints_at hcell (by omega)
    have h0 := hc 0 (by omega)
    refine ⟨b, off, rfl, lt_of_cell h0, fun j hj => ?_⟩
    rw [hc j (by omega)]
    simp [nAt, hj]

theorem Nums.byt {w : World} {B n : Nat} {A : Option Addr} {zs : List Int} (h : Nums .u8 w B A n zs) : ∃ l, Byt w B A n l := by
  obtain ⟨h1, h2, h3⟩ := h
  refine ⟨zs.map fun z => UInt8.ofNat z.toNat, by simpa using h1, fun hn => ?_⟩
  obtain ⟨b, off, e, hb, hc⟩ := h3 hn
  refine ⟨b, off, e, hb, fun j hj => ?_⟩
  rw [hc j hj]
  have hj' : j < zs.length := by omega
  have hw := h2 zs[j] (List.getElem_mem hj')
  obtain ⟨b1, b2⟩ := bounds_u8 hw
  simp only [nAt, byAt, List.getElem?_map, List.getElem?_eq_getElem hj', Option.map_some, Option.getD_some]
  have : (UInt8.ofNat zs[j].toNat).toNat = zs[j].toNat := by rw [UInt8.toNat_ofNat']; omega
  rw [this]
  congr 2
  omega

theorem open_byt {t e : TypeId} {v : Value} {d : DataW H} {p : List MemPlace} (ht : P.underlying t = some (.slice e)) (he : P.underlying e = some (.int .u8)) (hC : P.cellsOf e = 1)
    (hv : Value.okWide P W r b0 t v) (h : DataW.Trod enc P W base spare held t v d p) :
    ∃ A len cap l, v = .slice A len cap ∧ len ≤ cap ∧ cap ≤ maxLen ∧ Byt W W.heap.size A len l := by
  obtain ⟨A, len, cap, zs, h1, h2, h3, h4⟩ := open_nums ht he hC hv h
  obtain ⟨l, hl⟩ := h4.byt
  exact ⟨A, len, cap, l, h1, h2, h3, hl⟩

theorem open_arr {t e : TypeId} {n : Nat} {k : IntKind} {v : Value} {d : DataW H} {p : List MemPlace} (ht : P.underlying t = some (.array n e)) (he : P.underlying e = some (.int k)) (hC : P.cellsOf e = 1) (hT : P.cellsOf t = n)
    (hv : Value.okWide P W r b0 t v) (h : DataW.Trod enc P W base spare held t v d p) :
    ∃ zs : List Int, zs.length = n ∧ v = .agg (zs.map (Value.int k)).toArray ∧ ∀ z ∈ zs, (Lit.int k z).wf = true := by
  simp only [Value.okWide, ht] at hv
  obtain ⟨cs, rfl, hsz, _⟩ := hv
  obtain ⟨fuel, hf⟩ := h
  obtain ⟨xs, m, _, _, hlen, hxl, hi⟩ := DataW.trod_array ht hf
  rw [hT] at hlen
  have hcl : cs.toList.length = n := by simpa [Value.cells] using hlen
  have each : ∀ i (h : i < n), ∃ z, cs.toList[i]'(by omega) = .int k z ∧ (Lit.int k z).wf = true := by
    intro i h
    have h1 := hi i h
    rw [hC, Nat.mul_one] at h1
    have h2 : ((Value.agg cs).cells.toList.drop i).take 1 = [cs.toList[i]'(by omega)] := by
      show (cs.toList.drop i).take 1 = _
      rw [List.drop_eq_getElem_cons (by omega)]
      rfl
    rw [h2, List.getElem?_eq_getElem (by omega)] at h1
    obtain ⟨z, e1, _, e3⟩ := DataW.trod_int he h1
    exact ⟨z, by simpa using e1, e3⟩
  refine ⟨cs.toList.map fun v => match v with | .int _ z => z | _ => 0, by simpa using hcl, ?_, ?_⟩
  · congr 1
    apply Array.ext'
    rw [List.map_map]
    simp only
    apply List.ext_getElem
    · simp
    · intro i h1 h2
      obtain ⟨z, e, _⟩ := each i (by omega)
      simp only [List.getElem_map, Function.comp, e]
  · intro z hz
    simp only [List.mem_map] at hz
    obtain ⟨v, hv, rfl⟩ := hz
    obtain ⟨i, hi', rfl⟩ := List.getElem_of_mem hv
    obtain ⟨z, e, hw⟩ := each i (by omega)
    rw [e]; exact hw

/-- a struct of one-cell fields, by value: its fields' values, each with its reading. -/
theorem open_fields {t : TypeId} {fs : Array Field} {v : Value} {d : DataW H} {p : List MemPlace} (hs : P.underlying t = some (.struct fs)) (hone : Go.Deep.oneCellFields P fs = true) (hC : P.cellsOf t = fs.size)
    (hv : Value.okWide P W r b0 t v) (h : DataW.Trod enc P W base spare held t v d p) :
    ∃ (l : List Value) (n : Nat), v = .agg l.toArray ∧ l.length = fs.size ∧ ∀ (j : Nat) (f : Field), fs[j]? = some f → ∃ u y, l[j]? = some u ∧ DataW.trod enc P W base spare held n f.type [u] = some y := by
  obtain ⟨cs, rfl, hsz⟩ := okWide_struct hs hv
  obtain ⟨fuel, hf⟩ := h
  obtain ⟨xs, n, _, _, _, hlen, hg⟩ := DataW.trod_struct hs hf
  refine ⟨cs.toList, n, rfl, by simpa using hsz.trans hC, fun j f hj => ?_⟩
  obtain ⟨ho, hk⟩ := Go.Deep.hone_of hone j f hj
  have hjl : j < fs.size := (Array.getElem?_eq_some_iff.1 hj).1
  have hjc : j < cs.toList.length := by have := hsz.trans hC; simp; omega
  have h1 := hg j f hj
  rw [ho, hk] at h1
  have h2 : ((Value.agg cs).cells.toList.drop j).take 1 = [cs.toList[j]'hjc] := by
    show (cs.toList.drop j).take 1 = _
    rw [List.drop_eq_getElem_cons hjc]
    rfl
  rw [h2] at h1
  have hxl : j < xs.length := by omega
  rw [List.getElem?_eq_getElem hxl] at h1
  exact ⟨_, _, List.getElem?_eq_getElem hjc, h1⟩

/-- a struct whose fields are all integers of one kind, by value. -/
theorem open_ints_struct {t : TypeId} {fs : Array Field} {k : IntKind} {v : Value} {d : DataW H} {p : List MemPlace} (hs : P.underlying t = some (.struct fs)) (hone : Go.Deep.oneCellFields P fs = true) (hC : P.cellsOf t = fs.size)
    (hk : ∀ f ∈ fs.toList, P.underlying f.type = some (.int k)) (hv : Value.okWide P W r b0 t v) (h : DataW.Trod enc P W base spare held t v d p) :
    ∃ zs : List Int, zs.length = fs.size ∧ v = .agg (zs.map (Value.int k)).toArray ∧ ∀ z ∈ zs, (Lit.int k z).wf = true := by
  obtain ⟨l, n, rfl, hl, hf⟩ := open_fields hs hone hC hv h
  have each : ∀ (i : Nat) (h : i < l.length), ∃ z, l[i] = .int k z ∧ (Lit.int k z).wf = true := by
    intro i h
    have hfi : i < fs.size := by omega
    obtain ⟨u, y, hu, ht⟩ := hf i fs[i] (Array.getElem?_eq_getElem hfi)
    obtain ⟨z, e1, _, e3⟩ := DataW.trod_int (hk fs[i] (by simp)) ht
    rw [List.getElem?_eq_getElem h] at hu
    injection hu with hu
    injection e1 with e1
    exact ⟨z, hu.trans e1, e3⟩
  refine ⟨l.map fun v => match v with | .int _ z => z | _ => 0, by simpa using hl, ?_, ?_⟩
  · congr 2
    rw [List.map_map]
    apply List.ext_getElem
    · simp
    · intro i h1 h2
      obtain ⟨z, e, _⟩ := each i h1
      simp only [List.getElem_map, Function.comp, e]
  · intro z hz
    simp only [List.mem_map] at hz
    obtain ⟨v, hv, rfl⟩ := hz
    obtain ⟨i, hi', rfl⟩ := List.getElem_of_mem hv
    obtain ⟨z, e, hw⟩ := each i hi'
    rw [e]; exact hw

/-- a slice of whatever elements: its cells in a row, each element with its reading. -/
theorem open_flat {t e : TypeId} {C : Nat} {v : Value} {d : DataW H} {p : List MemPlace} (ht : P.underlying t = some (.slice e)) (hC : P.cellsOf e = C) (hC0 : 0 < C)
    (hv : Value.okWide P W r b0 t v) (h : DataW.Trod enc P W base spare held t v d p) :
    ∃ A len cap vs, v = .slice A len cap ∧ len ≤ cap ∧ cap ≤ maxLen ∧ Flat W W.heap.size A (len * C) vs ∧
      ∀ i, i < len → ∃ n y, DataW.trod enc P W base spare held n e ((List.range C).map fun j => vs (i * C + j)) = some y := by
  obtain ⟨A, len, cap, rfl⟩ := okWide_slice ht hv
  obtain ⟨fuel, hf⟩ := h
  rcases Go.Deep.open_slice ht hf with ⟨hcs, _⟩ | ⟨a, l, c, m, n, D, Pl, hcs, _, hl, hm, hmm, _, hi⟩
  · simp [Value.cells] at hcs
    obtain ⟨rfl, rfl, rfl⟩ := hcs
    exact ⟨_, _, _, fun _ => undef, rfl, Nat.le_refl _, Nat.zero_le _, fun h => absurd h (by omega), fun i hi => absurd hi (by omega)⟩
  · simp [Value.cells] at hcs
    obtain ⟨rfl, rfl, rfl⟩ := hcs
    have hml : len ≤ m := by rw [hmm]; split <;> omega
    have hcell : ∀ j, j < len * C → ∃ u, W.cell? (a.add (j / C * C) |>.add (j % C)) = some u := by
      intro j hj
      have hjl : j / C < len := Nat.div_lt_of_lt_mul (by rw [Nat.mul_comm]; exact hj)
      obtain ⟨cs', hc, _⟩ := hi (j / C) (by omega)
      rw [hC] at hc
      obtain ⟨_, hlen, hat⟩ := World.cells?_some hc
      have hm : j % C < C := Nat.mod_lt _ hC0
      exact ⟨cs'[j % C]'(by omega), by rw [hat _ hm, List.getElem?_eq_getElem]⟩
    rcases Nat.eq_zero_or_pos len with h0 | h0
    · subst h0
      exact ⟨_, _, _, fun _ => undef, rfl, Nat.zero_le _, hm, fun h => absurd h (by simp), fun i hi => absurd hi (by omega)⟩
    · obtain ⟨b, off, spot⟩ := a
      have hspot : spot = none := by
        have hp : 0 < len * C := Nat.mul_pos h0 hC0
        obtain ⟨u, hu⟩ := hcell 0 hp
        rw [Nat.zero_div, Nat.zero_mul, Nat.zero_mod] at hu
        simpa [Addr.add] using World.cell?_spot hu
      subst hspot
      have hadd : ∀ j, (Addr.add ⟨b, off, none⟩ (j / C * C)).add (j % C) = ⟨b, off + j, none⟩ := by
        intro j
        rw [Go.WideShapes.add_plain, Go.WideShapes.add_plain, Nat.add_assoc, Nat.div_add_mod']
      refine ⟨_, _, _, fun j => (W.cell? ⟨b, off + j, none⟩).getD undef, rfl, hl, hm, fun _ => ?_, fun i hil => ?_⟩
      · have hp : 0 < len * C := Nat.mul_pos h0 hC0
        obtain ⟨u, hu⟩ := hcell 0 hp
        rw [hadd] at hu
        refine ⟨b, off, rfl, lt_of_cell hu, fun j hj => ?_⟩
        obtain ⟨u, hu⟩ := hcell j hj
        rw [hadd] at hu
        simp [hu]
      · obtain ⟨cs', hc, ht'⟩ := hi i (by omega)
        rw [hC] at hc
        obtain ⟨_, hlen, hat⟩ := World.cells?_some hc
        refine ⟨n, (D i, Pl i), ?_⟩
        have e : ((List.range C).map fun j => (W.cell? ⟨b, off + (i * C + j), none⟩).getD undef) = cs' := by
          apply List.ext_getElem
          · simp [hlen]
          · intro j h1 h2
            have hj : j < C := by simpa using h1
            simp only [List.getElem_map, List.getElem_range]
            have := hat j hj
            rw [Go.WideShapes.add_plain, Go.WideShapes.add_plain, Nat.add_assoc] at this
            rw [this, List.getElem?_eq_getElem h2]; rfl
        rw [e]
        exact ht'

/-- a slice of structs of one-cell fields: its cells in a row, each field with its reading. -/
theorem open_rows {t e : TypeId} {fs : Array Field} {v : Value} {d : DataW H} {p : List MemPlace} (ht : P.underlying t = some (.slice e)) (hs : P.underlying e = some (.struct fs)) (hone : Go.Deep.oneCellFields P fs = true) (hC : P.cellsOf e = fs.size) (hC0 : 0 < fs.size)
    (hv : Value.okWide P W r b0 t v) (h : DataW.Trod enc P W base spare held t v d p) :
    ∃ A len cap vs, v = .slice A len cap ∧ len ≤ cap ∧ cap ≤ maxLen ∧ Flat W W.heap.size A (len * fs.size) vs ∧
      ∀ i, i < len → ∀ (j : Nat) (f : Field), fs[j]? = some f → ∃ n y, DataW.trod enc P W base spare held n f.type [vs (i * fs.size + j)] = some y := by
  obtain ⟨A, len, cap, vs, rfl, h1, h2, h3, h4⟩ := open_flat ht hC hC0 hv h
  refine ⟨A, len, cap, vs, rfl, h1, h2, h3, fun i hi j f hj => ?_⟩
  obtain ⟨n0, y0, hy⟩ := h4 i hi
  obtain ⟨xs, n, _, _, _, hlen, hg⟩ := DataW.trod_struct hs hy
  obtain ⟨ho, hk⟩ := Go.Deep.hone_of hone j f hj
  have hjl : j < fs.size := (Array.getElem?_eq_some_iff.1 hj).1
  have h5 := hg j f hj
  rw [ho, hk] at h5
  have h6 : (((List.range fs.size).map fun j => vs (i * fs.size + j)).drop j).take 1 = [vs (i * fs.size + j)] := by
    rw [List.drop_eq_getElem_cons (by simpa using hjl)]
    simp
  rw [h6] at h5
  have hxl : j < xs.length := by omega
  rw [List.getElem?_eq_getElem hxl] at h5
  exact ⟨_, _, h5⟩
/-- a slice of structs whose fields are all integers of one kind. -/
theorem open_ints_rows {t e : TypeId} {fs : Array Field} {k : IntKind} {v : Value} {d : DataW H} {p : List MemPlace} (ht : P.underlying t = some (.slice e)) (hs : P.underlying e = some (.struct fs)) (hone : Go.Deep.oneCellFields P fs = true) (hC : P.cellsOf e = fs.size) (hC0 : 0 < fs.size)
    (hk : ∀ f ∈ fs.toList, P.underlying f.type = some (.int k)) (hv : Value.okWide P W r b0 t v) (h : DataW.Trod enc P W base spare held t v d p) :
    ∃ A len cap vs, v = .slice A len cap ∧ len ≤ cap ∧ cap ≤ maxLen ∧ Flat W W.heap.size A (len * fs.size) vs ∧
      ∀ i, i < len → ∀ j, j < fs.size → ∃ z, vs (i * fs.size + j) = .int k z ∧ (Lit.int k z).wf = true := by
  obtain ⟨A, len, cap, vs, rfl, h1, h2, h3, h4⟩ := open_rows ht hs hone hC hC0 hv h
  refine ⟨A, len, cap, vs, rfl, h1, h2, h3, fun i hi j hj => ?_⟩
  obtain ⟨n, y, hy⟩ := h4 i hi j fs[j] (Array.getElem?_eq_getElem hj)
  obtain ⟨z, e1, _, e3⟩ := DataW.trod_int (hk fs[j] (by simp)) hy
  injection e1 with e1
  exact ⟨z, e1, e3⟩

theorem list_eq_of_get {α : Type} (l m : List α) (h : l.length = m.length) (hj : ∀ j, j < m.length → l[j]? = m[j]?) : l = m := by
  apply List.ext_getElem?
  intro j
  by_cases hl : j < m.length
  · exact hj j hl
  · rw [List.getElem?_eq_none (by omega), List.getElem?_eq_none (by omega)]
theorem field_int {t : TypeId} {k : IntKind} {u : Value} {n : Nat} {y : DataW H × List MemPlace} (ht : P.underlying t = some (.int k)) (h : DataW.trod enc P W base spare held n t [u] = some y) : ∃ z, u = .int k z ∧ (Lit.int k z).wf = true := by
  obtain ⟨z, e1, _, e3⟩ := DataW.trod_int ht h
  injection e1 with e1
  exact ⟨z, e1, e3⟩
theorem field_bool {t : TypeId} {u : Value} {n : Nat} {y : DataW H × List MemPlace} (ht : P.underlying t = some .bool) (h : DataW.trod enc P W base spare held n t [u] = some y) : ∃ b, u = .bool b := by
  obtain ⟨b, e1, _⟩ := DataW.trod_bool ht h
  injection e1 with e1
  exact ⟨b, e1⟩
theorem field_slice {t e : TypeId} {u : Value} {n : Nat} {y : DataW H × List MemPlace} (ht : P.underlying t = some (.slice e)) (h : DataW.trod enc P W base spare held n t [u] = some y) : ∃ A len cap, u = .slice A len cap ∧ len ≤ cap := by
  rcases Go.Deep.open_slice ht h with ⟨hcs, _⟩ | ⟨a, l, c, m, n, D, Pl, hcs, _, hl, _⟩
  · injection hcs with hcs; exact ⟨_, _, _, hcs, Nat.le_refl _⟩
  · injection hcs with hcs; exact ⟨_, _, _, hcs, hl⟩

/-- a slice of bools. -/
theorem open_bools {t e : TypeId} {v : Value} {d : DataW H} {p : List MemPlace} (ht : P.underlying t = some (.slice e)) (he : P.underlying e = some .bool) (hC : P.cellsOf e = 1)
    (hv : Value.okWide P W r b0 t v) (h : DataW.Trod enc P W base spare held t v d p) :
    ∃ (A : Option Addr) (len cap : Nat) (bs : Nat → Bool), v = .slice A len cap ∧ len ≤ cap ∧ cap ≤ maxLen ∧ Flat W W.heap.size A len fun j => .bool (bs j) := by
  obtain ⟨A, len, cap, vs, rfl, h1, h2, h3, h4⟩ := open_flat ht hC (by omega) hv h
  refine ⟨A, len, cap, fun j => match vs j with | .bool b => b | _ => false, rfl, h1, h2, fun hn => ?_⟩
  obtain ⟨b, off, e, hb, hc⟩ := h3 (by omega)
  refine ⟨b, off, e, hb, fun j hj => ?_⟩
  rw [hc j (by omega)]
  obtain ⟨n, y, hy⟩ := h4 j hj
  obtain ⟨x, ex, _⟩ := DataW.trod_bool he hy
  simp only [Nat.mul_one, List.range_one, List.map_cons, List.map_nil, List.cons.injEq, and_true, Nat.add_zero] at ex
  simp only [ex]
end
end Go.Proofs.Ytlkammmadchjnaa
