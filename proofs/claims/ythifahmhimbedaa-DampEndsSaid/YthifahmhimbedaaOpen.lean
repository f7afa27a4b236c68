/- What a law's arguments read as: over any program. -/
import Derived.Test.YthifahmhimbedaaMem
import Derived.ProofKit
import Derived.OpenShut
import Derived.ShutString
import Derived.ChangeOld
import Derived.Lib.SmallJoins
import Derived.Deep.Fields
import Derived.Deep.Slices
namespace Go.Proofs.Ythifahmhimbedaa
set_option linter.unusedVariables false
open Go.ChangeShapes Go.WideShapes Go.ChangeAt Go.RowKit

/-- the number at a place, 0 beyond. -/
def nAt (l : List Int) (j : Nat) : Int := l[j]?.getD 0
theorem nAt_get (l : List Int) (j : Nat) (h : j < l.length) : nAt l j = l[j] := by unfold nAt; rw [List.getElem?_eq_getElem h]; rfl
theorem nAt_mem (l : List Int) (j : Nat) (h : j < l.length) : nAt l j ∈ l := by rw [nAt_get l j h]; exact List.getElem_mem h
/-- the slice value '.slice A n c' holds n numbers of kind k (the first n of them), in a block below B. -/
def Nums (k : IntKind) (w : World) (B : Nat) (A : Option Addr) (n : Nat) (zs : List Int) : Prop :=
  zs.length = n ∧ (∀ z ∈ zs, (Lit.int k z).wf = true) ∧ (0 < n → ∃ b off, A = some ⟨b, off, none⟩ ∧ b < B ∧ ∀ j, j < n → w.cell? ⟨b, off + j, none⟩ = some (.int k (nAt zs j)))

section
variable {w w' : World} {B B' n : Nat} {A : Option Addr} {k : IntKind} {zs : List Int}
theorem Nums.keep (h : Nums k w B A n zs) (hk : ∀ p : Addr, p.block < B → w'.cell? p = w.cell? p) : Nums k w' B A n zs :=
  ⟨h.1, h.2.1, fun hn => by
    obtain ⟨b, off, e, hb, hc⟩ := h.2.2 hn
    exact ⟨b, off, e, hb, fun j hj => (hk _ hb).trans (hc j hj)⟩⟩
theorem Nums.below (h : Nums k w B A n zs) (hb : Below B w w') : Nums k w' B A n zs := h.keep fun _ hp => hb.cell hp
theorem Nums.more (h : Nums k w B A n zs) (hB : B ≤ B') : Nums k w B' A n zs :=
  ⟨h.1, h.2.1, fun hn => by
    obtain ⟨b, off, e, hb, hc⟩ := h.2.2 hn
    exact ⟨b, off, e, by omega, hc⟩⟩
end

section
variable {H : Type} {enc : TypeId × Value → H} {P : Program} {W : World} {base : Nat} {spare : Nat → Bool} {held : Bool} {r : Reach} {b0 : Nat}

theorem lt_of_cell {p : Addr} {v : Value} (h : W.cell? p = some v) : p.block < W.heap.size := by
  rcases Nat.lt_or_ge p.block W.heap.size with hlt | hge
  · exact hlt
  · simp [World.cell?, Array.getElem?_eq_none hge] at h

theorem open_nums {t e : TypeId} {k : IntKind} {v : Value} {d : DataW H} {p : List MemPlace} (ht : P.underlying t = some (.slice e)) (he : P.underlying e = some (.int k)) (hC : P.cellsOf e = 1)
    (hv : Value.okWide P W r b0 t v) (h : DataW.Trod enc P W base spare held t v d p) :
    ∃ A len cap zs, v = .slice A len cap ∧ len ≤ cap ∧ cap ≤ maxLen ∧ Nums k W W.heap.size A len zs := by
  obtain ⟨A, len, cap, rfl⟩ := okWide_slice ht hv
  obtain ⟨fuel, hf⟩ := h
  rcases open_ints ht he hC hf with ⟨hcs, _⟩ | ⟨x, l, c, zs, hcs, _, hl, hm, hz, _, hcell, hwz⟩
  · simp [Value.cells] at hcs
    obtain ⟨rfl, rfl, rfl⟩ := hcs
    exact ⟨_, _, _, [], rfl, Nat.le_refl _, Nat.zero_le _, rfl, by simp, fun h => absurd h (by omega)⟩
  · simp [Value.cells] at hcs
    obtain ⟨rfl, rfl, rfl⟩ := hcs
    have hz2 : len ≤ zs.length := by rw [hz]; split <;> omega
    refine ⟨_, _, _, zs.take len, rfl, hl, hm, by simp [hz2], fun z hz => hwz z (List.mem_of_mem_take hz), fun hn => ?_⟩
    obtain ⟨b, off, rfl, hc⟩ := ints_at hcell (by omega)
    have h0 := hc 0 (by omega)
    refine ⟨b, off, rfl, lt_of_cell h0, fun j hj => ?_⟩
    rw [hc j (by omega)]
    simp [nAt, hj]

theorem Nums.byt {w : World} {B n : Nat} {A : Option Addr} {zs : List Int} (h : Nums .u8 w B A n zs) : ∃ l, Byt w B A n l := by
  obtain ⟨h1, h2, h3⟩ := h
  refine ⟨zs.map fun z => UInt8.ofNat z.toNat, by simpa using h1, fun hn => ?_⟩
  obtain ⟨b, off, e, hb, hc⟩ := h3 hn
  refine ⟨b, off, e, hb, fun j hj => ?_⟩
  rw [hc j hj]
  have hj' : j < zs.length := by omega
  have hw := h2 zs[j] (List.getElem_mem hj')
  obtain ⟨b1, b2⟩ := bounds_u8 hw
  simp only [nAt, byAt, List.getElem?_map, List.getElem?_eq_getElem hj', Option.map_some, Option.getD_some]
  have : (UInt8.ofNat zs[j].toNat).toNat = zs[j].toNat := by rw [UInt8.toNat_ofNat']; omega
  rw [this]
  congr 2
  omega

theorem open_byt {t e : TypeId} {v : Value} {d : DataW H} {p : List MemPlace} (ht : P.underlying t = some (.slice e)) (he : P.underlying e = some (.int .u8)) (hC : P.cellsOf e = 1)
    (hv : Value.okWide P W r b0 t v) (h : DataW.Trod enc P W base spare held t v d p) :
    ∃ A len cap l, v = .slice A len cap ∧ len ≤ cap ∧ cap ≤ maxLen ∧ Byt W W.heap.size A len l := by
  obtain ⟨A, len, cap, zs, h1, h2, h3, h4⟩ := open_nums ht he hC hv h
  obtain ⟨l, hl⟩ := h4.byt
  exact ⟨A, len, cap, l, h1, h2, h3, hl⟩

theorem open_arr {t e : TypeId} {n : Nat} {k : IntKind} {v : Value} {d : DataW H} {p : List MemPlace} (ht : P.underlying t = some (.array n e)) (he : P.underlying e = some (.int k)) (hC : P.cellsOf e = 1) (hT : P.cellsOf t = n)
    (hv : Value.okWide P W r b0 t v) (h : DataW.Trod enc P W base spare held t v d p) :
    ∃ zs : List Int, zs.length = n ∧ v = .agg (zs.map (Value.int k)).toArray ∧ ∀ z ∈ zs, (Lit.int k z).wf = true := by
  simp only [Value.okWide, ht] at hv
  obtain ⟨cs, rfl, hsz, _⟩ := hv
  obtain ⟨fuel, hf⟩ := h
  obtain ⟨xs, m, _, _, hlen, hxl, hi⟩ := DataW.trod_array ht hf
  rw [hT] at hlen
  have hcl : cs.toList.length = n := by simpa [Value.cells] using hlen
  have each : ∀ i (h : i < n), ∃ z, cs.toList[i]'(by omega) = .int k z ∧ (Lit.int k z).wf = true := by
    intro i h
    have h1 := hi i h
    rw [hC, Nat.mul_one] at h1
    have h2 : ((Value.agg cs).cells.toList.drop i).take 1 = [cs.toList[i]'(by omega)] := by
      show (cs.toList.drop i).take 1 = _
      rw [List.drop_eq_getElem_cons (by omega)]
      rfl
    rw [h2, List.getElem?_eq_getElem (by omega)] at h1
    obtain ⟨z, e1, _, e3⟩ := DataW.trod_int he h1
    exact ⟨z, by simpa using e1, e3⟩
  refine ⟨cs.toList.map fun v => match v with | .int _ z => z | _ => 0, by simpa using hcl, ?_, ?_⟩
  · congr 1
    apply Array.ext'
    rw [List.map_map]
    simp only
    apply List.ext_getElem
    · simp
    · intro i h1 h2
      obtain ⟨z, e, _⟩ := each i (by omega)
      simp only [List.getElem_map, Function.comp, e]
  · intro z hz
    simp only [List.mem_map] at hz
    obtain ⟨v, hv, rfl⟩ := hz
    obtain ⟨i, hi', rfl⟩ := List.getElem_of_mem hv
    obtain ⟨z, e, hw⟩ := each i (by omega)
    rw [e]; exact hw

/-- a struct of one-cell fields, by value: its fields' values, each with its reading. -/
theorem open_fields {t : TypeId} {fs : Array Field} {v : Value} {d : DataW H} {p : List MemPlace} (hs : P.underlying t = some (.struct fs)) (hone : Go.Deep.oneCellFields P fs = true) (hC : P.cellsOf t = fs.size)
    (hv : Value.okWide P W r b0 t v) (h : DataW.Trod enc P W base spare held t v d p) :
    ∃ (l : List Value) (n : Nat), v = .agg l.toArray ∧ l.length = fs.size ∧ ∀ (j : Nat) (f : Field), fs[j]? = some f → ∃ u y, l[j]? = some u ∧ DataW.trod enc P W base spare held n f.type [u] = some y := by
  obtain ⟨cs, rfl, hsz⟩ := okWide_struct hs hv
  obtain ⟨fuel, hf⟩ := h
  obtain ⟨xs, n, _, _, _, hlen, hg⟩ := DataW.trod_struct hs hf
  refine ⟨cs.toList, n, rfl, by simpa using hsz.trans hC, fun j f hj => ?_⟩
  obtain ⟨ho, hk⟩ := Go.Deep.hone_of hone j f hj
  have hjl : j < fs.size := (Array.getElem?_eq_some_iff.1 hj).1
  have hjc : j < cs.toList.length := by have := hsz.trans hC; simp; omega
  have h1 := hg j f hj
  rw [ho, hk] at h1
  have h2 : ((Value.agg cs).cells.toList.drop j).take 1 = [cs.toList[j]'hjc] := by
    show (cs.toList.drop j).take 1 = _
    rw [List.drop_eq_getElem_cons hjc]
    rfl
  rw [h2] at h1
  have hxl : j < xs.length := by omega
  rw [List.getElem?_eq_getElem hxl] at h1
  exact ⟨_, _, List.getElem?_eq_getElem hjc, h1⟩

/-- a struct whose fields are all integers of one kind, by value. -/
theorem open_ints_struct {t : TypeId} {fs : Array Field} {k : IntKind} {v : Value} {d : DataW H} {p : List MemPlace} (hs : P.underlying t = some (.struct fs)) (hone : Go.Deep.oneCellFields P fs = true) (hC : P.cellsOf t = fs.size)
    (hk : ∀ f ∈ fs.toList, P.underlying f.type = some (.int k)) (hv : Value.okWide P W r b0 t v) (h : DataW.Trod enc P W base spare held t v d p) :
    ∃ zs : List Int, zs.length = fs.size ∧ v = .agg (zs.map (Value.int k)).toArray ∧ ∀ z ∈ zs, (Lit.int k z).wf = true := by
  obtain ⟨l, n, rfl, hl, hf⟩ := open_fields hs hone hC hv h
  have each : ∀ (i : Nat) (h : i < l.length), ∃ z, l[i] = .int k z ∧ (Lit.int k z).wf = true := by
    intro i h
    have hfi : i < fs.size := by omega
    obtain ⟨u, y, hu, ht⟩ := hf i fs[i] (Array.getElem?_eq_getElem hfi)
    obtain ⟨z, e1, _, e3⟩ := DataW.trod_int (hk fs[i] (by simp)) ht
    rw [List.getElem?_eq_getElem h] at hu
    injection hu with hu
    injection e1 with e1
    exact ⟨z, hu.trans e1, e3⟩
  refine ⟨l.map fun v => match v with | .int _ z => z | _ => 0, by simpa using hl, ?_, ?_⟩
  · congr 2
    rw [List.map_map]
    apply List.ext_getElem
    · simp
    · intro i h1 h2
      obtain ⟨z, e, _⟩ := each i h1
      simp only [List.getElem_map, Function.comp, e]
  · intro z hz
    simp only [List.mem_map] at hz
    obtain ⟨v, hv, rfl⟩ := hz
    obtain ⟨i, hi', rfl⟩ := List.getElem_of_mem hv
    obtain ⟨z, e, hw⟩ := each i hi'
    rw [e]; exact hw
end
end Go.Proofs.Ythifahmhimbedaa
