import Derived.WalkKit
import Derived.WalkSpells
import Derived.WalkLawsBesides
import Derived.Laws.BitsAllLaws
import Derived.Laws.BitsLemmas
import Derived.Below
import Derived.Laws.OwnMore
import Derived.Deep.Draws
import Derived.RangeFuncBox
import Derived.Laws.Rows
import Derived.Handy
import Derived.Lib.Hide
import Derived.Deep.QuietTactic
import Derived.BigQuiet
import Derived.BigRegion
import Derived.Deep.RegionHeld3
import Derived.Deep.DeepMust
import Derived.Deep.DeepFit
import Derived.ProofKit
import Derived.OpenShut
import Derived.ShutString
import Derived.ChangeOld
import Derived.Lib.SmallJoins
import Derived.Deep.Fields
import Derived.Deep.Slices
import Derived.Maps.AppendAt
import Derived.Deep.AppendLies
import Derived.RegionTactic
import Derived.OwnWalk
import Derived.Laws.CopyOwn
import Derived.Deep.MidRow
import Derived.Test.YtecmhakapomepaaGreatRows
import Derived.Laws.IdiomCopy
import Derived.Maps.OwnSet
import Derived.Maps.RangeRun
/- Plain facts on the bit operations of int (i64) by masks, and small helpers. Slices of bytes as lists. A block that is known whole. What a law's arguments read as: over any program. Rows that the call itself makes, of whatever element type: append. What a law's arguments read as: slices and structs within others. Regions that draw their order, by hand: what is held may grow from call to call. Drawn regions by hand, in short words: held_takeA. Byte slices that the call itself makes: over this program ([]byte is a known type of it). Slicing any bytes, as lists. Slicing any bytes, as lists: x[k:m:m]. Stores into blocks that are known, their worlds left open; results that lie in a block. A load of a whole struct out of a block that is known, as one operation. Drawn regions by hand: two or three operations that may come up. Rows of structs that the call makes or reads, element by element, with the memory that the elements lead to. Maps whose entries are known, one by one: look-up, store, delete, length, a range's step. -/
namespace Go.Proofs.YtecmhakapomepaaGreat
set_option linter.unusedVariables false
open Go.RowKit

theorem and16 (n : Int) : bits .and .i64 n 65535 = n % 65536 := by
  show IntKind.i64.wrap ((BitVec.ofInt 64 n &&& BitVec.ofInt 64 65535).toNat : Int) = _
  have h1 : (BitVec.ofInt 64 65535).toNat = 2 ^ 16 - 1 := by decide
  rw [BitVec.toNat_and, h1, Nat.and_two_pow_sub_one_eq_mod, BitVec.toNat_ofInt, IntKind.wrap_i64]
  omega
theorem andNot16 (n : Int) : bits .andNot .i64 65535 n = 65535 - n % 65536 := by
  show IntKind.i64.wrap ((BitVec.ofInt 64 65535 &&& ~~~ BitVec.ofInt 64 n).toNat : Int) = _
  have h1 : (BitVec.ofInt 64 65535).toNat = 2 ^ 16 - 1 := by decide
  rw [BitVec.toNat_and, h1, Nat.and_comm, Nat.and_two_pow_sub_one_eq_mod, BitVec.toNat_not, BitVec.toNat_ofInt, IntKind.wrap_i64]
  omega
theorem u32_and16 (n : Int) : bits .and .u32 n 65535 = n % 65536 := by
  show IntKind.u32.wrap ((BitVec.ofInt 32 n &&& BitVec.ofInt 32 65535).toNat : Int) = _
  have h1 : (BitVec.ofInt 32 65535).toNat = 2 ^ 16 - 1 := by decide
  rw [BitVec.toNat_and, h1, Nat.and_two_pow_sub_one_eq_mod, BitVec.toNat_ofInt, IntKind.wrap_u32]
  omega
theorem u32_and8 (n : Int) : bits .and .u32 n 255 = n % 256 := by
  show IntKind.u32.wrap ((BitVec.ofInt 32 n &&& BitVec.ofInt 32 255).toNat : Int) = _
  have h1 : (BitVec.ofInt 32 255).toNat = 2 ^ 8 - 1 := by decide
  rw [BitVec.toNat_and, h1, Nat.and_two_pow_sub_one_eq_mod, BitVec.toNat_ofInt, IntKind.wrap_u32]
  omega
attribute [go_sem] and16 andNot16 u32_and16 u32_and8
/-- a number's lowest byte. -/
def byOf (n : Int) : UInt8 := UInt8.ofNat (n % 256).toNat
theorem byOf_val (n : Int) : ((byOf n).toNat : Int) = n % 256 := by
  unfold byOf; rw [UInt8.toNat_ofNat']; omega
theorem ret_int {k : IntKind} {a b : Int} (h : a = b) : Ending.returned (.int k a) = .returned (.int k b) := by rw [h]
theorem ret_bool {a b : Bool} (h : a = b) : Ending.returned (.bool a) = .returned (.bool b) := by rw [h]

end Go.Proofs.YtecmhakapomepaaGreat

namespace Go.Proofs.YtecmhakapomepaaGreat
set_option linter.unusedVariables false
open Go.RowKit

/-- the byte at a place, 0 beyond. -/
def byAt (l : List UInt8) (j : Nat) : Int := ((l[j]?.getD 0).toNat : Int)
theorem byAt_lo (l : List UInt8) (j : Nat) : 0 ≤ byAt l j := by unfold byAt; omega
theorem byAt_hi (l : List UInt8) (j : Nat) : byAt l j ≤ 255 := by
  unfold byAt; have := (l[j]?.getD 0).toNat_lt; omega
/-- the slice value '.slice A n c' holds the bytes l, in a block below B (if there are any). -/
def Byt (w : World) (B : Nat) (A : Option Addr) (n : Nat) (l : List UInt8) : Prop :=
  l.length = n ∧ (0 < n → ∃ b off, A = some ⟨b, off, none⟩ ∧ b < B ∧ ∀ j, j < n → w.cell? ⟨b, off + j, none⟩ = some (.int .u8 (byAt l j)))

section
variable {w w' : World} {B B' n : Nat} {A : Option Addr} {l : List UInt8}
theorem Byt.none_ : Byt w B A 0 [] := ⟨rfl, fun h => absurd h (by omega)⟩
theorem Byt.keep (h : Byt w B A n l) (hk : ∀ p : Addr, p.block < B → w'.cell? p = w.cell? p) : Byt w' B A n l :=
  ⟨h.1, fun hn => by
    obtain ⟨b, off, e, hb, hc⟩ := h.2 hn
    exact ⟨b, off, e, hb, fun j hj => (hk _ hb).trans (hc j hj)⟩⟩
theorem Byt.more (h : Byt w B A n l) (hB : B ≤ B') : Byt w B' A n l :=
  ⟨h.1, fun hn => by
    obtain ⟨b, off, e, hb, hc⟩ := h.2 hn
    exact ⟨b, off, e, by omega, hc⟩⟩
theorem Byt.below (h : Byt w B A n l) (hb : Below B w w') : Byt w' B A n l := h.keep fun _ hp => hb.cell hp
theorem Byt.drew (h : Byt w B A n l) : Byt w.drew B A n l := h
theorem Byt.drewN (h : Byt w B A n l) (k : Nat) : Byt (w.drewN k) B A n l := h
theorem Byt.alloc (h : Byt w B A n l) (hB : B ≤ w.heap.size) (o : Obj) : Byt (w.alloc o) B A n l := h.keep fun p hp => World.cell?_alloc_lt w o p (by omega)
theorem Byt.setCell (h : Byt w B A n l) {p : Addr} (hB : B ≤ p.block) (u : Value) : Byt (w.setCell p u) B A n l :=
  h.keep fun q hq => World.cell?_setCell_other w p q u (fun e => by subst e; omega)
end

theorem byAt_drop (l : List UInt8) (k j : Nat) : byAt (l.drop k) j = byAt l (k + j) := by unfold byAt; rw [List.getElem?_drop]
theorem byAt_take (l : List UInt8) (k j : Nat) (h : j < k) : byAt (l.take k) j = byAt l j := by unfold byAt; rw [List.getElem?_take_of_lt h]
theorem Byt.take {w : World} {B n m : Nat} {A : Option Addr} {l : List UInt8} (h : Byt w B A n l) (hm : m ≤ n) : Byt w B A m (l.take m) :=
  ⟨by rw [List.length_take, h.1]; omega, fun h0 => by
    obtain ⟨b, off, e, hb, hc⟩ := h.2 (by omega)
    exact ⟨b, off, e, hb, fun j hj => by rw [byAt_take _ _ _ hj]; exact hc j (by omega)⟩⟩
theorem Byt.drop {w : World} {B n m b off : Nat} {l : List UInt8} (h : Byt w B (some ⟨b, off, none⟩) n l) (hm : m ≤ n) : Byt w B (some ⟨b, off + m, none⟩) (n - m) (l.drop m) :=
  ⟨by rw [List.length_drop, h.1], fun h0 => by
    obtain ⟨b', off', e, hb, hc⟩ := h.2 (by omega)
    injection e with e
    injection e with e1 e2
    subst e1 e2
    exact ⟨b, off + m, rfl, hb, fun j hj => by rw [byAt_drop, Nat.add_assoc]; exact hc (m + j) (by omega)⟩⟩

theorem below_drewN {B : Nat} {a w : World} (h : Below B a w) (n : Nat) : Below B a (w.drewN n) := ⟨h.os, h.tape, h.output, h.size, h.block⟩

def byCells (l : List UInt8) : Array Value := (l.map fun c => Value.int .u8 (c.toNat : Int)).toArray
theorem byCells_get (l : List UInt8) (j : Nat) (h : j < l.length) : (byCells l)[j]? = some (.int .u8 (byAt l j)) := by
  unfold byCells byAt; simp [List.getElem?_eq_getElem h]
theorem cell_of_cells (w : World) (k i : Nat) (cs : Array Value) (t : TypeId) (m : Nat × Nat) (h : w.heap[k]? = some (.cells cs t m)) : w.cell? ⟨k, i, none⟩ = cs[i]? := by
  simp [World.cell?, h]
/-- a new block of the bytes l. -/
theorem Byt.new (w : World) (l : List UInt8) (t : TypeId) (m : Nat × Nat) : Byt (w.alloc (.cells (byCells l) t m)) (w.heap.size + 1) (some ⟨w.heap.size, 0, none⟩) l.length l :=
  ⟨rfl, fun _ => ⟨_, 0, rfl, by omega, fun j hj => by
    rw [cell_of_cells _ _ _ _ t m (World.alloc_heap_new w _), Nat.zero_add, byCells_get l j hj]⟩⟩

end Go.Proofs.YtecmhakapomepaaGreat

namespace Go.Proofs.YtecmhakapomepaaGreat
set_option linter.unusedVariables false
open Go.RowKit

/-- block g is just the cells cs of element type t, none frozen. -/
def Blk (w : World) (g : Nat) (t : TypeId) (cs : Array Value) : Prop := w.heap[g]? = some (.cells cs t (0, 0))

section
variable {w w' : World} {g : Nat} {t : TypeId} {cs : Array Value}
theorem Blk.lt (h : Blk w g t cs) : g < w.heap.size := by
  rcases Nat.lt_or_ge g w.heap.size with hlt | hge
  · exact hlt
  · unfold Blk at h; rw [Array.getElem?_eq_none hge] at h; cases h
theorem Blk.cell (h : Blk w g t cs) (i : Nat) : w.cell? ⟨g, i, none⟩ = cs[i]? := cell_of_cells w g i cs t (0, 0) h
theorem Blk.cellv (h : Blk w g t cs) (i : Nat) {v : Value} (hv : cs[i]? = some v) : w.cell? ⟨g, i, none⟩ = some v := (h.cell i).trans hv
theorem Blk.frozen (h : Blk w g t cs) (i : Nat) : w.frozen? ⟨g, i, none⟩ = false := by
  unfold Blk at h
  simp [World.frozen?, h]
theorem Blk.new (w : World) (t : TypeId) (cs : Array Value) : Blk (w.alloc (.cells cs t)) w.heap.size t cs := World.alloc_heap_new w _
theorem Blk.drew (h : Blk w g t cs) : Blk w.drew g t cs := h
theorem Blk.drewN (h : Blk w g t cs) (n : Nat) : Blk (w.drewN n) g t cs := h
theorem Blk.alloc (h : Blk w g t cs) (o : Obj) : Blk (w.alloc o) g t cs := (Below.heap_alloc w o g h.lt).trans h
theorem Blk.set_ (h : Blk w g t cs) (i : Nat) (u : Value) : Blk (w.setCell ⟨g, i, none⟩ u) g t (cs.setIfInBounds i u) := by
  unfold Blk at h ⊢
  simp [World.setCell, Array.getElem?_modify, h]
theorem Blk.far (h : Blk w g t cs) {p : Addr} (hp : g ≠ p.block) (u : Value) : Blk (w.setCell p u) g t cs := (Below.heap_setCell w p u g hp).trans h
theorem Blk.below {B : Nat} (h : Blk w g t cs) (hb : Below B w w') (hg : g < B) : Blk w' g t cs := (hb.block g hg).trans h
theorem Blk.grown {row : Option Nat} (h : Blk w g t cs) (hb : w.grownBy w' row) (hg : some g ≠ row) : Blk w' g t cs := (hb.block g h.lt hg).trans h
end

section
variable {a b w : World} {row : Option Nat}
theorem grown_refl (w : World) (row : Option Nat) : w.grownBy w row := ⟨rfl, rfl, rfl, Nat.le_refl _, fun _ _ _ => rfl⟩
theorem grown_trans {c : World} (h : a.grownBy b row) (k : b.grownBy c row) : a.grownBy c row :=
  ⟨k.os.trans h.os, k.tape.trans h.tape, k.output.trans h.output, Nat.le_trans h.size k.size, fun i hi hne => (k.block i (Nat.lt_of_lt_of_le hi h.size) hne).trans (h.block i hi hne)⟩
theorem grown_drewN (h : a.grownBy w row) (n : Nat) : a.grownBy (w.drewN n) row := ⟨h.os, h.tape, h.output, h.size, h.block⟩
theorem grown_drew (h : a.grownBy w row) : a.grownBy w.drew row := ⟨h.os, h.tape, h.output, h.size, h.block⟩
theorem grown_setCell {g : Nat} (h : a.grownBy w (some g)) {p : Addr} (hp : p.block = g ∨ a.heap.size ≤ p.block) (u : Value) : a.grownBy (w.setCell p u) (some g) :=
  ⟨h.os, h.tape, h.output, by simpa [World.setCell] using h.size, fun i hi hne => (Below.heap_setCell w p u i (by
    rintro rfl
    rcases hp with hp | hp
    · exact hne (by rw [hp])
    · omega)).trans (h.block i hi hne)⟩
theorem grown_of {B : Nat} (hb : Below B a w) (hB : a.heap.size ≤ B) (row : Option Nat) : a.grownBy w row :=
  ⟨hb.os, hb.tape, hb.output, hb.size, fun k hk _ => hb.block k (by omega)⟩
/-- a call that turned one block of one's own. -/
theorem below_own {B g : Nat} {w0 w w' : World} (h : Below B w0 w) (hg : w.grownBy w' (some g)) (hB : B ≤ w.heap.size) (hle : B ≤ g) : Below B w0 w' :=
  h.grown hg hB fun k e => by injection e with e; omega
end

end Go.Proofs.YtecmhakapomepaaGreat

namespace Go.Proofs.YtecmhakapomepaaGreat
set_option linter.unusedVariables false
open Go.ChangeShapes Go.WideShapes Go.ChangeAt Go.RowKit

/-- the number at a place, 0 beyond. -/
def nAt (l : List Int) (j : Nat) : Int := l[j]?.getD 0
/-- the slice value '.slice A n c' holds n numbers of kind k (the first n of them), in a block below B. -/
def Nums (k : IntKind) (w : World) (B : Nat) (A : Option Addr) (n : Nat) (zs : List Int) : Prop :=
  zs.length = n ∧ (∀ z ∈ zs, (Lit.int k z).wf = true) ∧ (0 < n → ∃ b off, A = some ⟨b, off, none⟩ ∧ b < B ∧ ∀ j, j < n → w.cell? ⟨b, off + j, none⟩ = some (.int k (nAt zs j)))

section
variable {w w' : World} {B B' n : Nat} {A : Option Addr} {k : IntKind} {zs : List Int}
theorem Nums.keep (h : Nums k w B A n zs) (hk : ∀ p : Addr, p.block < B → w'.cell? p = w.cell? p) : Nums k w' B A n zs :=
  ⟨h.1, h.2.1, fun hn => by
    obtain ⟨b, off, e, hb, hc⟩ := h.2.2 hn
    exact ⟨b, off, e, hb, fun j hj => (hk _ hb).trans (hc j hj)⟩⟩
theorem Nums.below (h : Nums k w B A n zs) (hb : Below B w w') : Nums k w' B A n zs := h.keep fun _ hp => hb.cell hp
theorem Nums.more (h : Nums k w B A n zs) (hB : B ≤ B') : Nums k w B' A n zs :=
  ⟨h.1, h.2.1, fun hn => by
    obtain ⟨b, off, e, hb, hc⟩ := h.2.2 hn
    exact ⟨b, off, e, by omega, hc⟩⟩
end

/-- m cells in a row from A on, in a block below B: 'vs j' is the j-th. -/
def Flat (w : World) (B : Nat) (A : Option Addr) (m : Nat) (vs : Nat → Value) : Prop :=
  0 < m → ∃ b off, A = some ⟨b, off, none⟩ ∧ b < B ∧ ∀ j, j < m → w.cell? ⟨b, off + j, none⟩ = some (vs j)
section
variable {w w' : World} {B B' m : Nat} {A : Option Addr} {vs : Nat → Value}
theorem Flat.keep (h : Flat w B A m vs) (hk : ∀ p : Addr, p.block < B → w'.cell? p = w.cell? p) : Flat w' B A m vs := fun hn => by
    obtain ⟨b, off, e, hb, hc⟩ := h hn
    exact ⟨b, off, e, hb, fun j hj => (hk _ hb).trans (hc j hj)⟩
theorem Flat.below (h : Flat w B A m vs) (hb : Below B w w') : Flat w' B A m vs := h.keep fun _ hp => hb.cell hp
theorem Flat.more (h : Flat w B A m vs) (hB : B ≤ B') : Flat w B' A m vs := fun hn => by
    obtain ⟨b, off, e, hb, hc⟩ := h hn
    exact ⟨b, off, e, by omega, hc⟩
end

section
variable {H : Type} {enc : TypeId × Value → H} {P : Program} {W : World} {base : Nat} {spare : Nat → Bool} {held : Bool} {r : Reach} {b0 : Nat}

theorem lt_of_cell {p : Addr} {v : Value} (h : W.cell? p = some v) : p.block < W.heap.size := by
  rcases Nat.lt_or_ge p.block W.heap.size with hlt | hge
  · exact hlt
  · simp [World.cell?, Array.getElem?_eq_none hge] at h

theorem open_nums {t e : TypeId} {k : IntKind} {v : Value} {d : DataW H} {p : List MemPlace} (ht : P.underlying t = some (.slice e)) (he : P.underlying e = some (.int k)) (hC : P.cellsOf e = 1)
    (hv : Value.okWide P W r b0 t v) (h : DataW.Trod enc P W base spare held t v d p) :
    ∃ A len cap zs, v = .slice A len cap ∧ len ≤ cap ∧ cap ≤ maxLen ∧ Nums k W W.heap.size A len zs := by
  obtain ⟨A, len, cap, rfl⟩ := okWide_slice ht hv
  obtain ⟨fuel, hf⟩ := h
  rcases open_ints ht he hC hf with ⟨hcs, _⟩ | ⟨x, l, c, zs, hcs, _, hl, hm, hz, _, hcell, hwz⟩
  · simp [Value.cells] at hcs
    obtain ⟨rfl, rfl, rfl⟩ := hcs
    exact ⟨_, _, _, [], rfl, Nat.le_refl _, Nat.zero_le _, rfl, by simp, fun h => absurd h (by omega)⟩
  · simp [Value.cells] at hcs
    obtain ⟨rfl, rfl, rfl⟩ := hcs
    have hz2 : len ≤ zs.length := by rw [hz]; split <;> omega
    refine ⟨_, _, _, zs.take len, rfl, hl, hm, by simp [hz2], fun z hz => hwz z (List.mem_of_mem_take hz), fun hn => ?_⟩
    obtain ⟨b, off, rfl, hc⟩ := ints_at hcell (by omega)
    have h0 := hc 0 (by omega)
    refine ⟨b, off, rfl, lt_of_cell h0, fun j hj => ?_⟩
    rw [hc j (by omega)]
    simp [nAt, hj]

theorem Nums.byt {w : World} {B n : Nat} {A : Option Addr} {zs : List Int} (h : Nums .u8 w B A n zs) : ∃ l, Byt w B A n l := by
  obtain ⟨h1, h2, h3⟩ := h
  refine ⟨zs.map fun z => UInt8.ofNat z.toNat, by simpa using h1, fun hn => ?_⟩
  obtain ⟨b, off, e, hb, hc⟩ := h3 hn
  refine ⟨b, off, e, hb, fun j hj => ?_⟩
  rw [hc j hj]
  have hj' : j < zs.length := by omega
  have hw := h2 zs[j] (List.getElem_mem hj')
  obtain ⟨b1, b2⟩ := bounds_u8 hw
  simp only [nAt, byAt, List.getElem?_map, List.getElem?_eq_getElem hj', Option.map_some, Option.getD_some]
  have : (UInt8.ofNat zs[j].toNat).toNat = zs[j].toNat := by rw [UInt8.toNat_ofNat']; omega
  rw [this]
  congr 2
  omega

theorem open_byt {t e : TypeId} {v : Value} {d : DataW H} {p : List MemPlace} (ht : P.underlying t = some (.slice e)) (he : P.underlying e = some (.int .u8)) (hC : P.cellsOf e = 1)
    (hv : Value.okWide P W r b0 t v) (h : DataW.Trod enc P W base spare held t v d p) :
    ∃ A len cap l, v = .slice A len cap ∧ len ≤ cap ∧ cap ≤ maxLen ∧ Byt W W.heap.size A len l := by
  obtain ⟨A, len, cap, zs, h1, h2, h3, h4⟩ := open_nums ht he hC hv h
  obtain ⟨l, hl⟩ := h4.byt
  exact ⟨A, len, cap, l, h1, h2, h3, hl⟩

theorem field_int {t : TypeId} {k : IntKind} {u : Value} {n : Nat} {y : DataW H × List MemPlace} (ht : P.underlying t = some (.int k)) (h : DataW.trod enc P W base spare held n t [u] = some y) : ∃ z, u = .int k z ∧ (Lit.int k z).wf = true := by
  obtain ⟨z, e1, _, e3⟩ := DataW.trod_int ht h
  injection e1 with e1
  exact ⟨z, e1, e3⟩
end
end Go.Proofs.YtecmhakapomepaaGreat

namespace Go.Proofs.YtecmhakapomepaaGreat
set_option linter.unusedVariables false
open Go.RowKit

/-- what the table says of a slice type and its elements. -/
structure ElemOk (P : Program) (st et : TypeId) (size bytes : Nat) (z : Value) : Prop where
  slice : P.underlying st = some (.slice et)
  info : (P.info? et).map (fun i => (i.zero, i.size, i.bytes)) = some (some z, size, bytes)
  cells : z.cells.size = size
  pos : 0 < size

section
variable {w w' : World} {base n cap g size : Nat} {et : TypeId} {v : Value} {xs : List Value}
/-- the slice value v of n elements of type et is the call's own, from block 'base' on, and its cells are xs. -/
def Own1 (w : World) (base : Nat) (et : TypeId) (size : Nat) (v : Value) (n : Nat) (xs : List Value) : Prop := w.ownsRow base et size v n xs
theorem Own1.nil (w : World) (base : Nat) (et : TypeId) (size : Nat) : Own1 w base et size (.slice none 0 0) 0 [] := World.ownsRow_nil w base et size
theorem Own1.len (h : Own1 w base et size v n xs) : xs.length = n * size := h.1
theorem Own1.form (h : Own1 w base et size v n xs) (hn : 0 < n) : ∃ g cap, v = .slice (some ⟨g, 0, none⟩) n cap ∧ base ≤ g ∧ g < w.heap.size ∧ n ≤ cap ∧ cap ≤ maxLen := by
  rcases h.2 with ⟨_, h0⟩ | ⟨g, cap, cur, e, hb, hg, hnc, hm, _⟩
  · omega
  · exact ⟨g, cap, e, hb, (Array.getElem?_eq_some_iff.1 hg).1, hnc, hm⟩
theorem Own1.any (h : Own1 w base et size v n xs) : ∃ A cap, v = .slice A n cap ∧ n ≤ cap ∧ (∀ a, A = some a → base ≤ a.block) ∧ (0 < n → ∃ g, A = some ⟨g, 0, none⟩ ∧ g < w.heap.size ∧ ∀ j, j < n * size → w.cell? ⟨g, j, none⟩ = xs[j]?) := by
  rcases h.2 with ⟨e, h0⟩ | ⟨g, cap, cur, e, hb, hg, hnc, hm, hs, ht⟩
  · subst h0
    exact ⟨none, 0, e, Nat.le_refl _, fun a h => by (cases h), fun h => absurd h (by omega)⟩
  · refine ⟨_, cap, e, hnc, fun a h => by (cases h; exact hb), fun hn => ⟨g, rfl, (Array.getElem?_eq_some_iff.1 hg).1, fun j hj => ?_⟩⟩
    subst e
    exact World.ownsRow.cellAt h j hj
theorem Own1.kept {row : Option Nat} (h : Own1 w base et size v n xs) (hg : w.grownBy w' row) (hne : v.ownBlock = none ∨ v.ownBlock ≠ row) : Own1 w' base et size v n xs := World.ownsRow.kept h hg hne
theorem Own1.below (h : Own1 w base et size v n xs) (hb : Below w.heap.size w w') : Own1 w' base et size v n xs :=
  World.ownsRow.kept h (grown_of hb (Nat.le_refl _) none) (by cases hv : v.ownBlock <;> simp)
theorem Own1.alloc (h : Own1 w base et size v n xs) (o : Obj) : Own1 (w.alloc o) base et size v n xs := World.ownsRow.alloc h o
theorem Own1.drew (h : Own1 w base et size v n xs) : Own1 w.drew base et size v n xs := h
theorem Own1.drewN (h : Own1 w base et size v n xs) (k : Nat) : Own1 (w.drewN k) base et size v n xs := h
theorem Own1.lt (h : Own1 w base et size v n xs) : ∀ k, v.ownBlock = some k → base ≤ k ∧ k < w.heap.size := World.ownsRow.lt h
theorem Own1.store (h : Own1 w base et size (.slice (some ⟨g, 0, none⟩) n cap) n xs) (j : Nat) (u : Value) :
    Own1 (w.setCell ⟨g, j, none⟩ u) base et size (.slice (some ⟨g, 0, none⟩) n cap) n (xs.set j u) := (World.ownsRow.stored h j u).1
theorem Own1.free (h : Own1 w base et size (.slice (some ⟨g, 0, none⟩) n cap) n xs) (j : Nat) : w.frozen? ⟨g, j, none⟩ = false := World.ownsRow.frozenAt h j
theorem Own1.cell (h : Own1 w base et size (.slice (some ⟨g, 0, none⟩) n cap) n xs) (j : Nat) (hj : j < n * size) : w.cell? ⟨g, j, none⟩ = xs[j]? := World.ownsRow.cellAt h j hj
/-- a literal. -/
theorem Own1.lit (w : World) (cs : Array Value) (n : Nat) (hb : base ≤ w.heap.size) (hm : n ≤ maxLen) (hs : cs.size = n * size) :
    Own1 (w.alloc (.cells cs et)) base et size (.slice (some ⟨w.heap.size, 0, none⟩) n n) n cs.toList := World.ownsRow_lit (size := size) (e := et) w cs n hb hm hs
end

section
variable {P : Program} {st et : TypeId} {size bytes : Nat} {z : Value} (w : World)
theorem run_app1_nilsrc (E : ElemOk P st et size bytes z) (base : Nat) (ty : TypeId) (v : Value) (n : Nat) (xs : List Value) (hown : Own1 w base et size v n xs) (c : Nat) :
    (Builtin.append_ #[st, st] ty #[v, .slice none 0 c]).run P w = .ok v w := by
  obtain ⟨i, hi, _, _, _⟩ := info_parts E.info
  rcases hown.2 with ⟨rfl, rfl⟩ | ⟨g, cap, cur, rfl, _, _, hnc, _⟩
  · simp [Builtin.append_, run_underlying E.slice, sizeOf, typeInfo, hi, Builtin.lenOf, Builtin.firstCells]
  · simp [Builtin.append_, run_underlying E.slice, sizeOf, typeInfo, hi, Builtin.lenOf, Builtin.firstCells, hnc, storeCells]

/-- 'append(v, x...)': v the call's own; x's m elements are the cells 'news'. -/
theorem run_app1 (E : ElemOk P st et size bytes z) (base : Nat) (ty : TypeId) (v : Value) (n : Nat) (xs : List Value) (hown : Own1 w base et size v n xs) (X : Option Addr) (m c : Nat) (news : List Value)
    (hl : news.length = m * size) (hr : 0 < m → ∃ b off, X = some ⟨b, off, none⟩ ∧ ∀ j, j < m * size → w.cell? ⟨b, off + j, none⟩ = news[j]?) (h1 : ∀ u ∈ news, u.oneCell' = true)
    (h63 : n + m ≤ maxLen) (hbytes : (n + m) * bytes ≤ 140737488355328) (hbase : base ≤ w.heap.size) :
    ∃ v' w', (Builtin.append_ #[st, st] ty #[v, .slice X m c]).run P w = .ok v' w' ∧ Own1 w' base et size v' (n + m) (xs ++ news) ∧ w.grownBy w' v.ownBlock ∧
      (v'.ownBlock = v.ownBlock ∨ v'.ownBlock = some w.heap.size) := by
  obtain ⟨i, hi, hz, hs, hb⟩ := info_parts E.info
  rcases Nat.eq_zero_or_pos m with h0 | h0
  · subst h0
    obtain rfl : news = [] := List.eq_nil_of_length_eq_zero (by simpa using hl)
    cases X with
    | none => exact ⟨v, w, run_app1_nilsrc w E base ty v n xs hown c, by simpa using hown, World.grownBy.refl w _, .inl rfl⟩
    | some ad =>
      obtain ⟨v', w', e1, e2, e3, _, e5⟩ := run_append_own_at (P := P) w base st ty et i _ size bytes E.slice hi hz hs hb E.cells E.pos v n xs hown ad 0 c [] (by simp) (by simp) (by simp) h63 hbytes hbase
      exact ⟨v', w', e1, by simpa [Own1] using e2, e3, e5⟩
  · obtain ⟨b, off, rfl, hc⟩ := hr h0
    obtain ⟨v', w', e1, e2, e3, _, e5⟩ := run_append_own_at (P := P) w base st ty et i _ size bytes E.slice hi hz hs hb E.cells E.pos v n xs hown ⟨b, off, none⟩ m c news hl
      (fun j u hu => by
        have hj : j < m * size := by have := (List.getElem?_eq_some_iff.1 hu).1; omega
        rw [Go.WideShapes.add_plain, hc j hj]; exact hu) h1 h63 hbytes hbase
    exact ⟨v', w', e1, e2, e3, e5⟩

theorem wp_app1 (E : ElemOk P st et size bytes z) {o : Oper} {a : Act} {K : Act → World → Prop} {Q : Exit → Act → World → Prop} (s x : Operand)
    (ho : o.op = .call { callee := .builtin .append, args := #[s, x], argTypes := #[st, st] })
    (base : Nat) (v : Value) (n : Nat) (xs : List Value) (hs : a.eval s = v) (hown : Own1 w base et size v n xs) (X : Option Addr) (m c : Nat) (news : List Value) (hx : a.eval x = .slice X m c)
    (hl : news.length = m * size) (hr : 0 < m → ∃ b off, X = some ⟨b, off, none⟩ ∧ ∀ j, j < m * size → w.cell? ⟨b, off + j, none⟩ = news[j]?) (h1 : ∀ u ∈ news, u.oneCell' = true)
    (h63 : n + m ≤ maxLen) (hbytes : (n + m) * bytes ≤ 140737488355328) (hbase : base ≤ w.heap.size)
    (h : ∀ v' w', Own1 w' base et size v' (n + m) (xs ++ news) → w.grownBy w' v.ownBlock → (v'.ownBlock = v.ownBlock ∨ v'.ownBlock = some w.heap.size) → K (a.put o.dst v') w') : o.wp P a w K Q := by
  obtain ⟨v', w', hrun, h2, h3, h4⟩ := run_app1 w E base o.type v n xs hown X m c news hl hr h1 h63 hbytes hbase
  unfold Oper.wp execOp
  simp only [ho, resolve, invoke, builtin, Sem.run_bind, Sem.run_pure, Result.andThen_ok, List.map_toArray, List.map_cons, List.map_nil, hs, hx, hrun]
  exact h v' w' h2 h3 h4

end
theorem Own1.below_app {w w' : World} {base n size : Nat} {et : TypeId} {v : Value} {xs : List Value} (h : Own1 w base et size v n xs) (hg : w.grownBy w' v.ownBlock) (hb : base ≤ w.heap.size) : Below base w w' :=
  (Below.refl base w).grown hg hb fun k e => (World.ownsRow.lt h k e).1
end Go.Proofs.YtecmhakapomepaaGreat

namespace Go.Proofs.YtecmhakapomepaaGreat
set_option linter.unusedVariables false
open Go.ChangeShapes Go.WideShapes Go.ChangeAt Go.RowKit

section
variable {H : Type} {enc : TypeId × Value → H} {P : Program} {W : World} {base : Nat} {spare : Nat → Bool} {held : Bool} {r : Reach} {b0 : Nat}
/-- whatever elements, in a slice that is a part of something. -/
theorem field_flat {t e : TypeId} {C : Nat} {u : Value} {n : Nat} {y : DataW H × List MemPlace} (ht : P.underlying t = some (.slice e)) (hC : P.cellsOf e = C) (hC0 : 0 < C)
    (h : DataW.trod enc P W base spare held n t [u] = some y) :
    ∃ A len cap vs, u = .slice A len cap ∧ len ≤ cap ∧ cap ≤ maxLen ∧ Flat W W.heap.size A (len * C) vs ∧
      ∀ i, i < len → ∃ n y, DataW.trod enc P W base spare held n e ((List.range C).map fun j => vs (i * C + j)) = some y := by
  rcases Go.Deep.open_slice ht h with ⟨hcs, _⟩ | ⟨a, len, cap, m, n, D, Pl, hcs, _, hl, hm, hmm, _, hi⟩
  · injection hcs with hcs
    exact ⟨_, _, _, fun _ => undef, hcs, Nat.le_refl _, Nat.zero_le _, fun h => absurd h (by omega), fun i hi => absurd hi (by omega)⟩
  · injection hcs with hcs
    have hml : len ≤ m := by rw [hmm]; split <;> omega
    have hcell : ∀ j, j < len * C → ∃ u, W.cell? (a.add (j / C * C) |>.add (j % C)) = some u := by
      intro j hj
      have hjl : j / C < len := Nat.div_lt_of_lt_mul (by rw [Nat.mul_comm]; exact hj)
      obtain ⟨cs', hc, _⟩ := hi (j / C) (by omega)
      rw [hC] at hc
      obtain ⟨_, hlen, hat⟩ := World.cells?_some hc
      have hm : j % C < C := Nat.mod_lt _ hC0
      exact ⟨cs'[j % C]'(by omega), by rw [hat _ hm, List.getElem?_eq_getElem]⟩
    rcases Nat.eq_zero_or_pos len with h0 | h0
    · subst h0
      exact ⟨_, _, _, fun _ => undef, hcs, Nat.zero_le _, hm, fun h => absurd h (by simp), fun i hi => absurd hi (by omega)⟩
    · obtain ⟨b, off, spot⟩ := a
      have hspot : spot = none := by
        have hp : 0 < len * C := Nat.mul_pos h0 hC0
        obtain ⟨u, hu⟩ := hcell 0 hp
        rw [Nat.zero_div, Nat.zero_mul, Nat.zero_mod] at hu
        simpa [Addr.add] using World.cell?_spot hu
      subst hspot
      have hadd : ∀ j, (Addr.add ⟨b, off, none⟩ (j / C * C)).add (j % C) = ⟨b, off + j, none⟩ := by
        intro j
        rw [Go.WideShapes.add_plain, Go.WideShapes.add_plain, Nat.add_assoc, Nat.div_add_mod']
      refine ⟨_, _, _, fun j => (W.cell? ⟨b, off + j, none⟩).getD undef, hcs, hl, hm, fun _ => ?_, fun i hil => ?_⟩
      · have hp : 0 < len * C := Nat.mul_pos h0 hC0
        obtain ⟨u, hu⟩ := hcell 0 hp
        rw [hadd] at hu
        refine ⟨b, off, rfl, lt_of_cell hu, fun j hj => ?_⟩
        obtain ⟨u, hu⟩ := hcell j hj
        rw [hadd] at hu
        simp [hu]
      · obtain ⟨cs', hc, ht'⟩ := hi i (by omega)
        rw [hC] at hc
        obtain ⟨_, hlen, hat⟩ := World.cells?_some hc
        refine ⟨n, (D i, Pl i), ?_⟩
        have e : ((List.range C).map fun j => (W.cell? ⟨b, off + (i * C + j), none⟩).getD undef) = cs' := by
          apply List.ext_getElem
          · simp [hlen]
          · intro j h1 h2
            have hj : j < C := by simpa using h1
            simp only [List.getElem_map, List.getElem_range]
            have := hat j hj
            rw [Go.WideShapes.add_plain, Go.WideShapes.add_plain, Nat.add_assoc] at this
            rw [this, List.getElem?_eq_getElem h2]; rfl
        rw [e]
        exact ht'
/-- structs of one-cell fields, in a slice that is a part of something. -/
theorem field_rows {t e : TypeId} {fs : Array Field} {u : Value} {n : Nat} {y : DataW H × List MemPlace} (ht : P.underlying t = some (.slice e)) (hs : P.underlying e = some (.struct fs)) (hone : Go.Deep.oneCellFields P fs = true) (hC : P.cellsOf e = fs.size) (hC0 : 0 < fs.size)
    (h : DataW.trod enc P W base spare held n t [u] = some y) :
    ∃ A len cap vs, u = .slice A len cap ∧ len ≤ cap ∧ cap ≤ maxLen ∧ Flat W W.heap.size A (len * fs.size) vs ∧
      ∀ i, i < len → ∀ (j : Nat) (f : Field), fs[j]? = some f → ∃ n y, DataW.trod enc P W base spare held n f.type [vs (i * fs.size + j)] = some y := by
  obtain ⟨A, len, cap, vs, rfl, h1, h2, h3, h4⟩ := field_flat ht hC hC0 h
  refine ⟨A, len, cap, vs, rfl, h1, h2, h3, fun i hi j f hj => ?_⟩
  obtain ⟨n0, y0, hy⟩ := h4 i hi
  obtain ⟨xs, n, _, _, _, hlen, hg⟩ := DataW.trod_struct hs hy
  obtain ⟨ho, hk⟩ := Go.Deep.hone_of hone j f hj
  have hjl : j < fs.size := (Array.getElem?_eq_some_iff.1 hj).1
  have h5 := hg j f hj
  rw [ho, hk] at h5
  have h6 : (((List.range fs.size).map fun j => vs (i * fs.size + j)).drop j).take 1 = [vs (i * fs.size + j)] := by
    rw [List.drop_eq_getElem_cons (by simpa using hjl)]
    simp
  rw [h6] at h5
  have hxl : j < xs.length := by omega
  rw [List.getElem?_eq_getElem hxl] at h5
  exact ⟨_, _, h5⟩
end
end Go.Proofs.YtecmhakapomepaaGreat

namespace Go.Proofs.YtecmhakapomepaaGreat
set_option linter.unusedVariables false
open Go

section
variable {P : Program} {ops : Array Oper} {l : List Oper} {Q : Exit → Act → World → Prop} {md : Region.Mode} {S : World → Prop}
theorem held_mono {S S' : World → Prop} (hS : ∀ w, S' w → S w) : ∀ (fuel : Nat) (listed : Array Bool) (a : Act) (w : World), wpAnyH P md ops Q S' fuel listed a w → wpAnyH P md ops Q S fuel listed a w
  | 0, _, _, _, h => h
  | fuel + 1, _, _, _, h => ⟨h.1, fun i hi => wpOp_mono (fun a' w' h' => ⟨hS _ h'.1, held_mono hS fuel _ a' w' h'.2⟩) (h.2 i hi)⟩
end
end Go.Proofs.YtecmhakapomepaaGreat

namespace Go.Proofs.YtecmhakapomepaaGreat
set_option linter.unusedVariables false
open Go

def plainOp (o : Oper) : Bool := match o.op with
  | .call c => (match c.callee with
    | .builtin .len => true
    | .builtin .cap => true
    | .builtin .min => true
    | .builtin .max => true
    | _ => false)
  | .alloc _ => false
  | .box _ _ => false
  | .buildSlice _ _ _ => false
  | .store _ _ _ => false
  | .insert _ _ _ _ => false
  | .makeMap _ _ => false
  | .makeSlice _ _ _ => false
  | .mapUpdate _ _ _ _ => false
  | .next _ _ => false
  | _ => true
def okTake (md : Region.Mode) (l : List Oper) (listed : Array Bool) (tmps : Array Value) (i : Nat) : Bool :=
  Region.noSelect l.toArray && Region.free md l.toArray listed i && (Region.ready md l.toArray listed).contains i && (match l[i]? with
    | some o => plainOp o && Region.wanted o (yielded l.toArray tmps)
    | none => false)
def okSkip (md : Region.Mode) (l : List Oper) (listed : Array Bool) (tmps : Array Value) (i : Nat) : Bool :=
  Region.noSelect l.toArray && Region.free md l.toArray listed i && (Region.ready md l.toArray listed).contains i && (match l[i]? with
    | some o => !Region.wanted o (yielded l.toArray tmps)
    | none => false)
section
variable {P : Program} {l : List Oper} {Q : Exit → Act → World → Prop} {md : Region.Mode} {S : World → Prop}
/-- operation i is taken first. -/
theorem held_takeA {fuel : Nat} {listed : Array Bool} {a : Act} {w : World} (i : Nat) {o : Oper} (ho : l[i]? = some o) (v : Value) (hok : okTake md l listed a.tmps i = true)
    (hQ : ∀ c a w, Q (.panic c) (a.put o.dst v) w → Q (.panic c) a w) (hS : S w) (hy : ∀ w, S w → (execOp a.eval o).run P w = .ok (.value v) w)
    (h : wpAnyH P md l.toArray Q S fuel (listed.setIfInBounds i true) (a.put o.dst v) w) : wpAnyH P md l.toArray Q S (fuel + 1) listed a w := by
  unfold okTake at hok
  rw [ho] at hok
  simp only [Bool.and_eq_true] at hok
  obtain ⟨⟨⟨h1, h2⟩, h3⟩, _, h4⟩ := hok
  exact wpAnyH_take (by simpa using ho) h1 h2 h3 hQ (.inl ⟨h4, hy⟩) hS h
/-- operation i, whose guard says no. -/
theorem held_skipA {fuel : Nat} {listed : Array Bool} {a : Act} {w : World} (i : Nat) {o : Oper} (ho : l[i]? = some o) (hok : okSkip md l listed a.tmps i = true)
    (hQ : ∀ c a w, Q (.panic c) (a.put o.dst undef) w → Q (.panic c) a w) (hS : S w)
    (h : wpAnyH P md l.toArray Q S fuel (listed.setIfInBounds i true) (a.put o.dst undef) w) : wpAnyH P md l.toArray Q S (fuel + 1) listed a w := by
  unfold okSkip at hok
  rw [ho] at hok
  simp only [Bool.and_eq_true, Bool.not_eq_true'] at hok
  obtain ⟨⟨⟨h1, h2⟩, h3⟩, h4⟩ := hok
  exact wpAnyH_take (by simpa using ho) h1 h2 h3 hQ (.inr ⟨h4, rfl⟩) hS h
/-- operation i is the only one that may come up. -/
theorem held_callA {fuel : Nat} {listed : Array Bool} {a : Act} {w : World} (i : Nat) {o : Oper} (ho : l[i]? = some o) (hr : Region.ready md l.toArray listed = [i])
    (hw : Region.wanted o (yielded l.toArray a.tmps) = true)
    (h : ∀ K : Act → World → Prop, Shut (∀ a w, S w → wpAnyH P md l.toArray Q S fuel (listed.setIfInBounds i true) a w → K a w) → Oper.wp P o a w K Q) : wpAnyH P md l.toArray Q S (fuel + 1) listed a w :=
  wpAnyH_ready hr (by simp) (AllReadyH.cons (o := o) (by simpa using ho) (fun K hK => by
    rw [if_pos hw]
    exact h K (fun a w hS hW => hK.out a w hS (fun _ => hW))) AllReadyH.nil)
end
/-- a load of a whole struct from a block that is known. -/
theorem exec_load_blk {P : Program} {o : Oper} {ev : Operand → Value} {ty : TypeId} {x : Operand} (ho : o.op = .load ty x) {g : Nat} (hx : ev x = .pointer (some ⟨g, 0, none⟩)) {T : TypeId} {cs : Array Value} {w : World} (h : Blk w g T cs)
    (d : TypeDesc) (hu : P.underlying ty = some d) (hd : d.isRow = true) (hi : (P.info? ty).map (·.size) = some cs.size) : (execOp ev o).run P w = .ok (.value (.agg cs)) w := by
  have := run_loadVar_mid (P := P) w g 0 ty cs.toList d (fun j v hj => by rw [Nat.zero_add, h.cell]; simpa using hj) hu hd (by simpa using hi)
  unfold execOp
  simp only [ho, hx, Instr.loadAt, Instr.sureAddr, Sem.run_bind, Sem.run_pure, Result.andThen_ok, this]
theorem grown_cell {w w' : World} {row : Nat} (h : w.grownBy w' (some row)) {b o : Nat} (hb : b < w.heap.size) (hne : b ≠ row) : w'.cell? ⟨b, o, none⟩ = w.cell? ⟨b, o, none⟩ := by
  unfold World.cell?
  rw [h.block b hb (by simpa using hne)]
end Go.Proofs.YtecmhakapomepaaGreat

namespace Go.Proofs.YtecmhakapomepaaGreat
set_option linter.unusedVariables false
open Go.RowKit

def bvs (l : List UInt8) : List Value := l.map fun c => Value.int .u8 (c.toNat : Int)
theorem bvs_app (l k : List UInt8) : bvs (l ++ k) = bvs l ++ bvs k := List.map_append
theorem bvs_one (l : List UInt8) : ∀ u ∈ bvs l, u.oneCell' = true := by
  intro u hu
  simp only [bvs, List.mem_map] at hu
  obtain ⟨c, _, rfl⟩ := hu
  rfl
theorem bvs_get (l : List UInt8) (j : Nat) (h : j < l.length) : (bvs l)[j]? = some (.int .u8 (byAt l j)) := by
  unfold bvs byAt; simp [List.getElem?_eq_getElem h]
theorem bvs_len (l : List UInt8) : (bvs l).length = l.length := by simp [bvs]
theorem bvs_set (l : List UInt8) (j : Nat) (n : Int) : bvs (l.set j (byOf n)) = (bvs l).set j (.int .u8 (n % 256)) := by
  unfold bvs; rw [List.map_set, byOf_val]

/-- the slice value v of n bytes, from block 'base' on, is the call's own, and reads l. -/
def OwnB (w : World) (base : Nat) (v : Value) (n : Nat) (l : List UInt8) : Prop := w.ownsRow base 5 1 v n (bvs l)

section
variable {w w' : World} {base n cap g : Nat} {v : Value} {l : List UInt8}
theorem OwnB.len (h : OwnB w base v n l) : l.length = n := by have := h.1; rw [bvs_len] at this; omega
theorem OwnB.nil (w : World) (base : Nat) : OwnB w base (.slice none 0 0) 0 [] := World.ownsRow_nil w base _ _
theorem OwnB.form (h : OwnB w base v n l) (hn : 0 < n) : ∃ g cap, v = .slice (some ⟨g, 0, none⟩) n cap ∧ base ≤ g ∧ g < w.heap.size ∧ n ≤ cap ∧ cap ≤ maxLen := by
  rcases h.2 with ⟨_, h0⟩ | ⟨g, cap, cur, e, hb, hg, hnc, hm, _⟩
  · omega
  · exact ⟨g, cap, e, hb, (Array.getElem?_eq_some_iff.1 hg).1, hnc, hm⟩
/-- whatever its make. -/
theorem OwnB.any (h : OwnB w base v n l) : ∃ A cap, v = .slice A n cap ∧ n ≤ cap ∧ Byt w w.heap.size A n l ∧ (∀ a, A = some a → base ≤ a.block) := by
  rcases h.2 with ⟨e, h0⟩ | ⟨g, cap, cur, e, hb, hg, hnc, hm, hs, ht⟩
  · subst h0
    exact ⟨none, 0, e, Nat.le_refl _, ⟨h.len, fun h => absurd h (by omega)⟩, fun a h => by cases h⟩
  · refine ⟨_, cap, e, hnc, ⟨h.len, fun hn => ⟨g, 0, rfl, (Array.getElem?_eq_some_iff.1 hg).1, fun j hj => ?_⟩⟩, fun a h => by cases h; exact hb⟩
    subst e
    rw [Nat.zero_add, World.ownsRow.cellAt h j (by omega), bvs_get _ _ (by rw [h.len]; exact hj)]
theorem OwnB.byt (h : OwnB w base (.slice (some ⟨g, 0, none⟩) n cap) n l) : Byt w w.heap.size (some ⟨g, 0, none⟩) n l := by
  obtain ⟨A, c, e, _, hb, _⟩ := h.any
  injection e with e1 e2
  rw [e1]; exact hb
theorem OwnB.kept {row : Option Nat} (h : OwnB w base v n l) (hg : w.grownBy w' row) (hne : v.ownBlock = none ∨ v.ownBlock ≠ row) : OwnB w' base v n l := World.ownsRow.kept h hg hne
theorem grown_of_below {B : Nat} (hb : Below B w w') (hB : w.heap.size ≤ B) (row : Option Nat) : w.grownBy w' row :=
  ⟨hb.os, hb.tape, hb.output, hb.size, fun k hk _ => hb.block k (by omega)⟩
theorem OwnB.below (h : OwnB w base v n l) (hb : Below w.heap.size w w') : OwnB w' base v n l :=
  World.ownsRow.kept h (grown_of_below hb (Nat.le_refl _) none) (by cases hv : v.ownBlock <;> simp)
theorem OwnB.alloc (h : OwnB w base v n l) (o : Obj) : OwnB (w.alloc o) base v n l := World.ownsRow.alloc h o
theorem OwnB.drew (h : OwnB w base v n l) : OwnB w.drew base v n l := h
theorem OwnB.drewN (h : OwnB w base v n l) (k : Nat) : OwnB (w.drewN k) base v n l := h
/-- a byte stored. -/
theorem OwnB.store (h : OwnB w base (.slice (some ⟨g, 0, none⟩) n cap) n l) (j : Nat) (z : Int) (z1 : 0 ≤ z) (z2 : z ≤ 255) :
    OwnB (w.setCell ⟨g, j, none⟩ (.int .u8 z)) base (.slice (some ⟨g, 0, none⟩) n cap) n (l.set j (byOf z)) := by
  unfold OwnB
  rw [bvs_set, Int.emod_eq_of_lt z1 (by omega)]
  exact (World.ownsRow.stored h j _).1
theorem OwnB.free (h : OwnB w base (.slice (some ⟨g, 0, none⟩) n cap) n l) (j : Nat) : w.frozen? ⟨g, j, none⟩ = false := World.ownsRow.frozenAt h j
theorem OwnB.cell (h : OwnB w base (.slice (some ⟨g, 0, none⟩) n cap) n l) (j : Nat) (hj : j < n) : w.cell? ⟨g, j, none⟩ = some (.int .u8 (byAt l j)) := by
  rw [World.ownsRow.cellAt h j (by omega), bvs_get _ _ (by rw [h.len]; exact hj)]
/-- a literal []byte{..}. -/
theorem OwnB.lit (w : World) (l : List UInt8) (hb : base ≤ w.heap.size) (hm : l.length ≤ maxLen) :
    OwnB (w.alloc (.cells (byCells l) 5)) base (.slice (some ⟨w.heap.size, 0, none⟩) l.length l.length) l.length l := by
  have := World.ownsRow_lit (size := 1) (e := 5) w (byCells l) l.length hb hm (by simp [byCells])
  simpa [OwnB, byCells, bvs] using this
end

theorem info_u8 : (Tryz.prog.info? 5).map (fun i => (i.zero, i.size, i.bytes)) = some (some (.int .u8 0), 1, 1) := by kernel_rfl

section
variable (w : World)
theorem run_append_nilsrc (base : Nat) (ty : TypeId) (v : Value) (n : Nat) (l : List UInt8) (hown : OwnB w base v n l) (c : Nat) :
    (Builtin.append_ #[30, 30] ty #[v, .slice none 0 c]).run Tryz.prog w = .ok v w := by
  obtain ⟨i, hi, _, _, _⟩ := info_parts info_u8
  rcases hown.2 with ⟨rfl, rfl⟩ | ⟨g, cap, cur, rfl, _, _, hnc, _⟩
  · simp [Builtin.append_, run_underlying Tryz.underlying30, sizeOf, typeInfo, hi, Builtin.lenOf, Builtin.firstCells]
  · simp [Builtin.append_, run_underlying Tryz.underlying30, sizeOf, typeInfo, hi, Builtin.lenOf, Builtin.firstCells, hnc, storeCells]

/-- 'append(v, x...)': v the call's own, x whatever bytes. -/
theorem run_app (base : Nat) (ty : TypeId) (v : Value) (n : Nat) (l : List UInt8) (hown : OwnB w base v n l) (B : Nat) (X : Option Addr) (m c : Nat) (k : List UInt8) (hr : Byt w B X m k)
    (hlen : n + m ≤ 140737488355328) (hbase : base ≤ w.heap.size) :
    ∃ v' w', (Builtin.append_ #[30, 30] ty #[v, .slice X m c]).run Tryz.prog w = .ok v' w' ∧ OwnB w' base v' (n + m) (l ++ k) ∧ w.grownBy w' v.ownBlock ∧
      (v'.ownBlock = v.ownBlock ∨ v'.ownBlock = some w.heap.size) := by
  obtain ⟨i, hi, hz, hs, hb⟩ := info_parts info_u8
  rcases Nat.eq_zero_or_pos m with h0 | h0
  · subst h0
    obtain rfl : k = [] := List.eq_nil_of_length_eq_zero hr.1
    cases X with
    | none => exact ⟨v, w, run_append_nilsrc w base ty v n l hown c, by simpa using hown, World.grownBy.refl w _, .inl rfl⟩
    | some ad =>
      obtain ⟨v', w', e1, e2, e3, _, e5⟩ := run_append_own_at (P := Tryz.prog) w base 30 ty 5 i _ 1 1 Tryz.underlying30 hi hz hs hb rfl (by omega) v n (bvs l) hown ad 0 c [] rfl (by simp) (by simp) (by unfold maxLen; omega) (by omega) hbase
      exact ⟨v', w', e1, by simpa [OwnB] using e2, e3, e5⟩
  · obtain ⟨b, off, rfl, _, hc⟩ := hr.2 h0
    obtain ⟨v', w', e1, e2, e3, _, e5⟩ := run_append_own_at (P := Tryz.prog) w base 30 ty 5 i _ 1 1 Tryz.underlying30 hi hz hs hb rfl (by omega) v n (bvs l) hown ⟨b, off, none⟩ m c (bvs k) (by rw [bvs_len, hr.1]; omega)
      (fun j u hu => by
        have hj : j < m := by have := (List.getElem?_eq_some_iff.1 hu).1; rw [bvs_len, hr.1] at this; exact this
        rw [bvs_get k j (by rw [hr.1]; exact hj)] at hu
        rw [Go.WideShapes.add_plain, hc j hj]; exact hu) (bvs_one k) (by unfold maxLen; omega) (by omega) hbase
    exact ⟨v', w', e1, by rw [OwnB, bvs_app]; exact e2, e3, e5⟩

theorem wp_app {o : Oper} {a : Act} {K : Act → World → Prop} {Q : Exit → Act → World → Prop} (s x : Operand)
    (ho : o.op = .call { callee := .builtin .append, args := #[s, x], argTypes := #[30, 30] })
    (base : Nat) (v : Value) (n : Nat) (l : List UInt8) (hs : a.eval s = v) (hown : OwnB w base v n l) (B : Nat) (X : Option Addr) (m c : Nat) (k : List UInt8) (hx : a.eval x = .slice X m c) (hr : Byt w B X m k)
    (hlen : n + m ≤ 140737488355328) (hbase : base ≤ w.heap.size)
    (h : ∀ v' w', OwnB w' base v' (n + m) (l ++ k) → w.grownBy w' v.ownBlock → (v'.ownBlock = v.ownBlock ∨ v'.ownBlock = some w.heap.size) → K (a.put o.dst v') w') : o.wp Tryz.prog a w K Q := by
  obtain ⟨v', w', hrun, h2, h3, h4⟩ := run_app w base o.type v n l hown B X m c k hr hlen hbase
  unfold Oper.wp execOp
  simp only [ho, resolve, invoke, builtin, Sem.run_bind, Sem.run_pure, Result.andThen_ok, List.map_toArray, List.map_cons, List.map_nil, hs, hx, hrun]
  exact h v' w' h2 h3 h4

theorem wpList_app {ops : Array Oper} {rest : List Oper} {o : Oper} {a : Act} {Q : Exit → Act → World → Prop} (hgd : o.guard = none) (s x : Operand)
    (ho : o.op = .call { callee := .builtin .append, args := #[s, x], argTypes := #[30, 30] })
    (base : Nat) (v : Value) (n : Nat) (l : List UInt8) (hs : a.eval s = v) (hown : OwnB w base v n l) (B : Nat) (X : Option Addr) (m c : Nat) (k : List UInt8) (hx : a.eval x = .slice X m c) (hr : Byt w B X m k)
    (hlen : n + m ≤ 140737488355328) (hbase : base ≤ w.heap.size)
    (h : ∀ v' w', OwnB w' base v' (n + m) (l ++ k) → w.grownBy w' v.ownBlock → (v'.ownBlock = v.ownBlock ∨ v'.ownBlock = some w.heap.size) → wpList Tryz.prog ops Q rest (a.put o.dst v') w') : wpList Tryz.prog ops Q (o :: rest) a w :=
  wpList_plain hgd fun _ hK => wp_app w s x ho base v n l hs hown B X m c k hx hr hlen hbase fun v' w' h2 h3 h4 => hK _ _ (h v' w' h2 h3 h4)
end

section
variable (g off L c p q : Nat)
theorem elem_u8 : Tryz.prog.underlying 30 = some (.slice (Tryz.prog.elem 30)) := by kernel_rfl
theorem size_u8 (w : World) : (sizeOf (Tryz.prog.elem 30)).run Tryz.prog w = .ok 1 w := by kernel_rfl
theorem slice_hi (hp : p ≤ c) : ∀ w, (Instr.slice 30 (.slice (some ⟨g, off, none⟩) L c) none (some (.int .i64 (p : Int))) none).run Tryz.prog w = .ok (.slice (some ⟨g, off, none⟩) p c) w := by
  intro w
  rw [run_slice_h w 30 _ L c elem_u8 .i64 p (by omega) (by omega), size_u8]
  simp [Result.andThen, sliced, Addr.add]
theorem slice_lh (hp : p ≤ q) (hq : q ≤ c) (hc : p < c) : ∀ w, (Instr.slice 30 (.slice (some ⟨g, off, none⟩) L c) (some (.int .i64 (p : Int))) (some (.int .i64 (q : Int))) none).run Tryz.prog w = .ok (.slice (some ⟨g, off + p, none⟩) (q - p) (c - p)) w := by
  intro w
  rw [run_slice_lh w 30 _ L c elem_u8 .i64 .i64 p q (by omega) (by omega) (by omega), size_u8]
  have h1 : c ≠ p := by omega
  simp [Result.andThen, sliced, h1, Go.WideShapes.add_plain]
end

/-- an append onto a row from 'base' on turns nothing below base. -/
theorem OwnB.below_app {w w' : World} {base n : Nat} {v : Value} {l : List UInt8} (h : OwnB w base v n l) (hg : w.grownBy w' v.ownBlock) (hb : base ≤ w.heap.size) : Below base w w' :=
  (Below.refl base w).grown hg hb fun k e => (World.ownsRow.lt h k e).1

end Go.Proofs.YtecmhakapomepaaGreat

namespace Go.Proofs.YtecmhakapomepaaGreat
set_option linter.unusedVariables false
open Go.RowKit

theorem byt_empty (w : World) (B : Nat) (A : Option Addr) : Byt w B A 0 [] := ⟨rfl, fun h => absurd h (by omega)⟩
theorem byt_shift {w : World} {B n m k : Nat} {A : Option Addr} {l l' : List UInt8} (h : Byt w B A n l) (hl : l'.length = m) (hm : k + m ≤ n) (hb : ∀ j, j < m → byAt l' j = byAt l (k + j)) :
    Byt w B (A.map (·.add k)) m l' := by
  refine ⟨hl, fun h0 => ?_⟩
  obtain ⟨b, off, rfl, hB, hc⟩ := h.2 (by omega)
  refine ⟨b, off + k, by simp [Go.WideShapes.add_plain], hB, fun j hj => ?_⟩
  rw [hb j hj, Nat.add_assoc]
  exact hc (k + j) (by omega)
/-- x[k:]. -/
theorem slice_drop (A : Option Addr) (n c k : Nat) (hk : k ≤ n) (hc : n ≤ c) :
    ∃ A', (∀ w, (Instr.slice 30 (.slice A n c) (some (.int .i64 (k : Int))) none none).run Tryz.prog w = .ok (.slice A' (n - k) (c - k)) w) ∧
      (∀ w B l, Byt w B A n l → Byt w B A' (n - k) (l.drop k)) := by
  refine ⟨if c = k then A else A.map (·.add k), fun w => ?_, fun w B l h => ?_⟩
  · rw [run_slice_l w 30 A n c elem_u8 .i64 k (by omega) (by omega), size_u8]
    simp [Result.andThen, sliced]
  · have hl := h.1
    by_cases e : c = k
    · rw [if_pos e, show n - k = 0 from by omega, List.drop_of_length_le (by omega)]
      exact byt_empty w B A
    · rw [if_neg e]
      exact byt_shift h (by simp [hl]) (by omega) fun j _ => byAt_drop l k j
/-- x[:k:k]. -/
theorem slice_take3 (A : Option Addr) (n c k : Nat) (hk : k ≤ n) (hc : n ≤ c) :
    ∃ A', (∀ w, (Instr.slice 30 (.slice A n c) none (some (.int .i64 (k : Int))) (some (.int .i64 (k : Int)))).run Tryz.prog w = .ok (.slice A' k k) w) ∧
      (∀ w B l, Byt w B A n l → Byt w B A' k (l.take k)) := by
  refine ⟨if k = 0 then A else A.map (·.add 0), fun w => ?_, fun w B l h => ?_⟩
  · rw [run_slice_hm w 30 A n c elem_u8 .i64 .i64 k k (by omega) (by omega) (by omega), size_u8]
    simp [Result.andThen, sliced]
  · have hl := h.1
    by_cases e : k = 0
    · subst e; exact byt_empty w B _
    · rw [if_neg e]
      exact byt_shift h (by simp [hl]; omega) (by omega) fun j hj => by rw [Nat.zero_add]; exact byAt_take l k j hj
/-- x[k:m]. -/
theorem slice_mid (A : Option Addr) (n c k m : Nat) (hk : k ≤ m) (hm : m ≤ n) (hc : n ≤ c) :
    ∃ A', (∀ w, (Instr.slice 30 (.slice A n c) (some (.int .i64 (k : Int))) (some (.int .i64 (m : Int))) none).run Tryz.prog w = .ok (.slice A' (m - k) (c - k)) w) ∧
      (∀ w B l, Byt w B A n l → Byt w B A' (m - k) ((l.drop k).take (m - k))) := by
  refine ⟨if c = k then A else A.map (·.add k), fun w => ?_, fun w B l h => ?_⟩
  · rw [run_slice_lh w 30 A n c elem_u8 .i64 .i64 k m (by omega) (by omega) (by omega), size_u8]
    simp [Result.andThen, sliced]
  · have hl := h.1
    by_cases e : c = k
    · rw [if_pos e, show m - k = 0 from by omega]
      exact byt_empty w B A
    · rw [if_neg e]
      exact byt_shift h (by simp [hl]; omega) (by omega) fun j hj => by rw [byAt_take _ _ _ hj]; exact byAt_drop l k j
end Go.Proofs.YtecmhakapomepaaGreat

namespace Go.Proofs.YtecmhakapomepaaGreat
set_option linter.unusedVariables false
open Go.RowKit
end Go.Proofs.YtecmhakapomepaaGreat

namespace Go.Proofs.YtecmhakapomepaaGreat
set_option linter.unusedVariables false
open Go Go.RowKit

section
variable {P : Program} {w w' : World} {g B n : Nat} {T : TypeId} {cs : Array Value}
theorem Below.of_grown {B row : Nat} (hg : w.grownBy w' (some row)) (hB : B ≤ w.heap.size) (hr : B ≤ row) : Below B w w' :=
  ⟨hg.os, hg.tape, hg.output, hg.size, fun k hk => hg.block k (by omega) (by simp; omega)⟩
/-- a store of one cell. -/
theorem blk_store (h : Blk w g T cs) (i : Nat) (v : Value) : Blk (w.setCell ⟨g, i, none⟩ v) g T (cs.setIfInBounds i v) ∧ w.grownBy (w.setCell ⟨g, i, none⟩ v) (some g) :=
  ⟨h.set_ i v, grown_setCell (grown_refl w _) (.inl rfl) v⟩
theorem blk_setCells : ∀ (vs : List Value) (o : Nat) (w : World) (l : List Value), Blk w g T l.toArray → o + vs.length = l.length → Blk (w.setCells g o vs) g T (l.take o ++ vs).toArray ∧ w.grownBy (w.setCells g o vs) (some g)
  | [], o, w, l, h, hl => by
    have hl' : l.length = o := by simpa using hl.symm
    rw [World.setCells, List.append_nil, List.take_of_length_le (by omega)]
    exact ⟨h, grown_refl w _⟩
  | v :: r, o, w, l, h, hl => by
    have hl' : o + (r.length + 1) = l.length := by simpa using hl
    rw [World.setCells]
    have h1 := h.set_ o v
    rw [List.setIfInBounds_toArray] at h1
    obtain ⟨h2, h3⟩ := blk_setCells r (o + 1) _ _ h1 (by rw [List.length_set]; omega)
    refine ⟨?_, grown_trans (blk_store h o v).2 h3⟩
    have e : (l.set o v).take (o + 1) ++ r = l.take o ++ v :: r := by
      rw [List.take_add_one, List.take_set_of_le (Nat.le_refl _), List.getElem?_set_self (by omega)]
      simp
    rw [e] at h2
    exact h2
/-- a store of a whole struct into its block. -/
theorem wp_store_blk {op : Oper} {a : Act} {K : Act → World → Prop} {Q : Exit → Act → World → Prop} {cells : Array Value} (h : Blk w g T cs) (ty : TypeId) (x y : Operand) (ho : op.op = .store ty x y)
    (hx : a.eval x = .pointer (some ⟨g, 0, none⟩)) (hy : a.eval y = .agg cells) (hs : cells.size = cs.size) (hi : (P.info? ty).map (·.size) = some cells.size) (h1 : cells.all (·.oneCell') = true)
    (hk : ∀ w', Blk w' g T cells → w.grownBy w' (some g) → K (a.put op.dst undef) w') : op.wp P a w K Q := by
  have hb := h
  obtain ⟨e1, e2⟩ := blk_setCells (T := T) (g := g) cells.toList 0 w cs.toList h (by simp [hs])
  simp at e1
  refine wp_store_mid ty x y ho g 0 cells hx hy (fun j hj => ?_) hi h1 (hk _ e1 e2)
  rw [Nat.zero_add]
  exact ⟨by rw [h.cell, Array.getElem?_eq_getElem (by omega)]; rfl, h.frozen j⟩
theorem wpList_store_blk {ops : Array Oper} {rest : List Oper} {op : Oper} {a : Act} {Q : Exit → Act → World → Prop} {cells : Array Value} (hgd : op.guard = none) (h : Blk w g T cs) (ty : TypeId) (x y : Operand) (ho : op.op = .store ty x y)
    (hx : a.eval x = .pointer (some ⟨g, 0, none⟩)) (hy : a.eval y = .agg cells) (hs : cells.size = cs.size) (hi : (P.info? ty).map (·.size) = some cells.size) (h1 : cells.all (·.oneCell') = true)
    (hk : ∀ w', Blk w' g T cells → w.grownBy w' (some g) → wpList P ops Q rest (a.put op.dst undef) w') : wpList P ops Q (op :: rest) a w :=
  wpList_plain hgd fun _ hK => wp_store_blk h ty x y ho hx hy hs hi h1 fun w' h2 h3 => hK _ _ (hk w' h2 h3)
theorem load_blk {ty : TypeId} {d : TypeDesc} (h : Blk w g T cs) (hu : P.underlying ty = some d) (hd : d.isRow = true) (hi : (P.info? ty).map (·.size) = some cs.size) : (loadVar ty ⟨g, 0, none⟩).run P w = .ok (.agg cs) w := by
  have := run_loadVar_mid (P := P) w g 0 ty cs.toList d (fun j v hj => by rw [Nat.zero_add, h.cell]; simpa using hj) hu hd (by simpa using hi)
  simpa using this
end
theorem results_c {P : Program} {fn : Func} {a : Tmp} {ty : TypeId} {w : World} {ad : Addr} {v : Value} (h : fn.results = #[.cell a ty]) (tmps : Array Value) (ha : tmps.getD a undef = .pointer (some ad)) (hl : (loadVar ty ad).run P w = .ok v w) :
    (results fn tmps).run P w = .ok v w := by
  have ha2 := ha
  simp only [Array.getD_eq_getD_getElem?] at ha2
  simp [results, h, ha2, asAddr, hl]
theorem results_ct {P : Program} {fn : Func} {a u : Tmp} {ty : TypeId} {w : World} {ad : Addr} {v : Value} (h : fn.results = #[.cell a ty, .tmp u]) (tmps : Array Value) (ha : tmps.getD a undef = .pointer (some ad)) (hl : (loadVar ty ad).run P w = .ok v w) :
    (results fn tmps).run P w = .ok (.tuple #[v, tmps.getD u undef]) w := by
  have ha2 := ha
  simp only [Array.getD_eq_getD_getElem?] at ha2
  simp [results, h, ha2, asAddr, hl]
end Go.Proofs.YtecmhakapomepaaGreat

namespace Go.Proofs.YtecmhakapomepaaGreat
set_option linter.unusedVariables false
open Go Go.RowKit
theorem wpList_load_blk {P : Program} {w : World} {g : Nat} {T : TypeId} {cs : Array Value} {ops : Array Oper} {rest : List Oper} {op : Oper} {a : Act} {Q : Exit → Act → World → Prop} (hgd : op.guard = none) (h : Blk w g T cs) (ty : TypeId) (x : Operand) (ho : op.op = .load ty x)
    (hx : a.eval x = .pointer (some ⟨g, 0, none⟩)) {d : TypeDesc} (hu : P.underlying ty = some d) (hd : d.isRow = true) (hi : (P.info? ty).map (·.size) = some cs.size)
    (hk : wpList P ops Q rest (a.put op.dst (.agg cs)) w) : wpList P ops Q (op :: rest) a w :=
  wpList_load_mid hgd ty x ho g 0 hx cs.toList d (fun j v hj => by rw [Nat.zero_add, h.cell]; simpa using hj) hu hd (by simpa using hi) hk
end Go.Proofs.YtecmhakapomepaaGreat

namespace Go.Proofs.YtecmhakapomepaaGreat
set_option linter.unusedVariables false
open Go
section
variable {P : Program} {l : List Oper} {Q : Exit → Act → World → Prop} {md : Region.Mode} {S : World → Prop}
theorem held_two {fuel : Nat} {listed : Array Bool} {a : Act} {w : World} (i j : Nat) {oi oj : Oper} (hi : l[i]? = some oi) (hj : l[j]? = some oj) (hr : Region.ready md l.toArray listed = [i, j])
    (hwi : Region.wanted oi (yielded l.toArray a.tmps) = true) (hwj : Region.wanted oj (yielded l.toArray a.tmps) = true)
    (h1 : ∀ K : Act → World → Prop, Shut (∀ a w, S w → wpAnyH P md l.toArray Q S fuel (listed.setIfInBounds i true) a w → K a w) → Oper.wp P oi a w K Q)
    (h2 : ∀ K : Act → World → Prop, Shut (∀ a w, S w → wpAnyH P md l.toArray Q S fuel (listed.setIfInBounds j true) a w → K a w) → Oper.wp P oj a w K Q) : wpAnyH P md l.toArray Q S (fuel + 1) listed a w :=
  wpAnyH_ready hr (by simp) (AllReadyH.cons (o := oi) (by simpa using hi) (fun K hK => by
    rw [if_pos hwi]
    exact h1 K (fun a w hS hW => hK.out a w hS (fun _ => hW))) (AllReadyH.cons (o := oj) (by simpa using hj) (fun K hK => by
    rw [if_pos hwj]
    exact h2 K (fun a w hS hW => hK.out a w hS (fun _ => hW))) AllReadyH.nil))
end
section
variable {P : Program} {l : List Oper} {Q : Exit → Act → World → Prop} {md : Region.Mode} {S : World → Prop}
end
end Go.Proofs.YtecmhakapomepaaGreat

namespace Go.Proofs.YtecmhakapomepaaGreat
set_option linter.unusedVariables false
open Go.RowKit

/-- a kind of element: its cells, and what is so of the memory that it leads to, in blocks of which S is so. -/
structure RK (α : Type) where
  size : Nat
  cel : α → List Value
  ok : World → (Nat → Prop) → α → Prop
  pos : 0 < size
  len : ∀ a, (cel a).length = size
  one : ∀ a, ∀ u ∈ cel a, u.oneCell' = true
  keep : ∀ {w w' S a}, ok w S a → (∀ p : Addr, S p.block → w'.cell? p = w.cell? p) → ok w' S a
  more : ∀ {w S S' a}, ok w S a → (∀ b, S b → S' b) → ok w S' a
/-- bytes in blocks of which S is so. -/
def BytS (w : World) (S : Nat → Prop) (A : Option Addr) (n : Nat) (l : List UInt8) : Prop :=
  l.length = n ∧ (0 < n → ∃ b off, A = some ⟨b, off, none⟩ ∧ S b ∧ ∀ j, j < n → w.cell? ⟨b, off + j, none⟩ = some (.int .u8 (byAt l j)))
theorem BytS.keep {w w' : World} {S : Nat → Prop} {n : Nat} {A : Option Addr} {l : List UInt8} (h : BytS w S A n l) (hk : ∀ p : Addr, S p.block → w'.cell? p = w.cell? p) : BytS w' S A n l := by
  refine ⟨h.1, fun hn => ?_⟩
  obtain ⟨b, off, e, hb, hc⟩ := h.2 hn
  exact ⟨b, off, e, hb, fun j hj => by rw [hk ⟨b, off + j, none⟩ hb]; exact hc j hj⟩
theorem BytS.more {w : World} {S S' : Nat → Prop} {n : Nat} {A : Option Addr} {l : List UInt8} (h : BytS w S A n l) (hS : ∀ b, S b → S' b) : BytS w S' A n l := by
  refine ⟨h.1, fun hn => ?_⟩
  obtain ⟨b, off, e, hb, hc⟩ := h.2 hn
  exact ⟨b, off, e, hS b hb, hc⟩
theorem BytS.byt {w : World} {S : Nat → Prop} {B n : Nat} {A : Option Addr} {l : List UInt8} (h : BytS w S A n l) (hS : ∀ b, S b → b < B) : Byt w B A n l := by
  refine ⟨h.1, fun hn => ?_⟩
  obtain ⟨b, off, e, hb, hc⟩ := h.2 hn
  exact ⟨b, off, e, hS b hb, hc⟩
section
variable {α : Type} (R : RK α)
theorem flat_len (l : List α) : (l.flatMap R.cel).length = l.length * R.size := by
  induction l with
  | nil => simp
  | cons a l ih => rw [List.flatMap_cons, List.length_append, ih, R.len, List.length_cons, Nat.succ_mul]; omega
theorem flat_get (l : List α) (j i : Nat) (a : α) (hj : l[j]? = some a) (hi : i < R.size) : (l.flatMap R.cel)[j * R.size + i]? = (R.cel a)[i]? := by
  induction l generalizing j with
  | nil => simp at hj
  | cons b l ih =>
    rw [List.flatMap_cons]
    cases j with
    | zero =>
      simp at hj; subst hj
      rw [Nat.zero_mul, Nat.zero_add, List.getElem?_append_left (by rw [R.len]; exact hi)]
    | succ j =>
      rw [List.getElem?_cons_succ] at hj
      rw [List.getElem?_append_right (by rw [R.len, Nat.succ_mul]; omega), R.len, show (j + 1) * R.size + i - R.size = j * R.size + i by rw [Nat.succ_mul]; omega]
      exact ih j hj
/-- the slice at A reads as these elements, their memory in blocks of which S is so. -/
def Seen (w : World) (S : Nat → Prop) (A : Option Addr) (n : Nat) (l : List α) : Prop :=
  l.length = n ∧ (∀ a ∈ l, R.ok w S a) ∧ (0 < n → ∃ b off, A = some ⟨b, off, none⟩ ∧ S b ∧ ∀ j a, l[j]? = some a → ∀ i, i < R.size → w.cell? ⟨b, off + (j * R.size + i), none⟩ = (R.cel a)[i]?)
/-- the call's own row of these elements: its block from base on, their memory in other blocks, from lo on. -/
def Rows (w : World) (lo base : Nat) (et : TypeId) (v : Value) (l : List α) : Prop :=
  Own1 w base et R.size v l.length (l.flatMap R.cel) ∧ ∀ a ∈ l, R.ok w (fun b => lo ≤ b ∧ b < w.heap.size ∧ v.ownBlock ≠ some b) a
variable {R} {w w' : World} {S S' : Nat → Prop} {lo base n : Nat} {A : Option Addr} {et : TypeId} {v : Value} {l : List α}
theorem Seen.keep (h : Seen R w S A n l) (hk : ∀ p : Addr, S p.block → w'.cell? p = w.cell? p) : Seen R w' S A n l := by
  refine ⟨h.1, fun a ha => R.keep (h.2.1 a ha) hk, fun hn => ?_⟩
  obtain ⟨b, off, e, h1, hc⟩ := h.2.2 hn
  exact ⟨b, off, e, h1, fun j a hj i hi => by rw [hk ⟨b, _, none⟩ h1]; exact hc j a hj i hi⟩
theorem Seen.more (h : Seen R w S A n l) (hS : ∀ b, S b → S' b) : Seen R w S' A n l := by
  refine ⟨h.1, fun a ha => R.more (h.2.1 a ha) hS, fun hn => ?_⟩
  obtain ⟨b, off, e, q1, hc⟩ := h.2.2 hn
  exact ⟨b, off, e, hS b q1, hc⟩
theorem Seen.below {B : Nat} (h : Seen R w S A n l) (hb : Below B w w') (hB : ∀ b, S b → b < B) : Seen R w' S A n l := h.keep fun p hp => hb.cell (hB _ hp)
theorem Seen.grown {row : Option Nat} (h : Seen R w S A n l) (hg : w.grownBy w' row) (hS : ∀ b, S b → b < w.heap.size ∧ row ≠ some b) : Seen R w' S A n l :=
  h.keep fun p hp => by
    unfold World.cell?
    rw [hg.block p.block (hS _ hp).1 (fun e => (hS _ hp).2 e.symm)]
theorem Seen.drew (h : Seen R w S A n l) : Seen R w.drew S A n l := h.keep fun _ _ => rfl
theorem Seen.none_ : Seen R w S none 0 [] := ⟨rfl, by simp, fun h => absurd h (by omega)⟩
theorem Seen.cell (h : Seen R w S A n l) {j : Nat} {a : α} (hj : l[j]? = some a) : ∃ b off, A = some ⟨b, off, none⟩ ∧ S b ∧ ∀ i, i < R.size → w.cell? ⟨b, off + (j * R.size + i), none⟩ = (R.cel a)[i]? := by
  have hlt := (List.getElem?_eq_some_iff.1 hj).1
  obtain ⟨b, off, e, h1, hc⟩ := h.2.2 (by have := h.1; omega)
  exact ⟨b, off, e, h1, hc j a hj⟩
theorem Rows.nil (w : World) (lo base : Nat) (et : TypeId) : Rows R w lo base et (.slice (Option.none : Option Addr) 0 0) [] := ⟨Own1.nil w base et R.size, by simp⟩
theorem Rows.below (h : Rows R w lo base et v l) (hb : Below w.heap.size w w') : Rows R w' lo base et v l :=
  ⟨h.1.below hb, fun a ha => R.more (R.keep (h.2 a ha) fun p hp => hb.cell hp.2.1) fun b q => ⟨q.1, Nat.lt_of_lt_of_le q.2.1 hb.size, q.2.2⟩⟩
/-- another block was written, in which nothing of these lies. -/
theorem Rows.kept {row : Option Nat} (h : Rows R w lo base et v l) (hg : w.grownBy w' row) (hr : ∀ k, row = some k → k < lo) (hlb : lo ≤ base) : Rows R w' lo base et v l :=
  ⟨h.1.kept hg (by
    cases hv : v.ownBlock with
    | none => exact .inl rfl
    | some k => exact .inr (by
        intro e
        have h1 := (h.1.lt k hv).1
        have h2 := hr k e.symm
        omega)), fun a ha => R.more (R.keep (h.2 a ha) fun p hp => by
    unfold World.cell?
    rw [hg.block p.block hp.2.1 (fun e => by have := hr _ e.symm; have := hp.1; omega)]) fun b q => ⟨q.1, Nat.lt_of_lt_of_le q.2.1 hg.size, q.2.2⟩⟩
theorem Rows.alloc (h : Rows R w lo base et v l) (o : Obj) : Rows R (w.alloc o) lo base et v l := h.below ((Below.refl _ _).alloc (Nat.le_refl _) o)
theorem Rows.drew (h : Rows R w lo base et v l) : Rows R w.drew lo base et v l := h.below (Below.refl _ _).drew
theorem Rows.less {lo' base' : Nat} (h : Rows R w lo base et v l) (h1 : lo' ≤ lo) (h2 : base' ≤ base) : Rows R w lo' base' et v l := by
  refine ⟨⟨h.1.1, ?_⟩, fun a ha => R.more (h.2 a ha) fun b q => ⟨Nat.le_trans h1 q.1, q.2⟩⟩
  rcases h.1.2 with h0 | ⟨g2, cap, cur, q1, q2, q3⟩
  · exact .inl h0
  · exact .inr ⟨g2, cap, cur, q1, by omega, q3⟩
theorem Rows.seen (h : Rows R w lo base et v l) (hlb : lo ≤ base) : ∃ A cap, v = .slice A l.length cap ∧ l.length ≤ cap ∧ cap ≤ maxLen ∧ Seen R w (fun b => lo ≤ b ∧ b < w.heap.size) A l.length l := by
  obtain ⟨A, cap, e, h1, h2, h3⟩ := h.1.any
  have hcm : cap ≤ maxLen := by
    rcases h.1.2 with ⟨q, _⟩ | ⟨g, cap', cur, q, _, _, _, hm, _⟩
    · rw [e] at q; injection q with _ _ q; rw [q]; exact Nat.zero_le _
    · rw [e] at q; injection q with _ _ q; rw [q]; exact hm
  refine ⟨A, cap, e, h1, hcm, rfl, fun a ha => R.more (h.2 a ha) fun b q => ⟨q.1, q.2.1⟩, fun hn => ?_⟩
  obtain ⟨g, e2, hg, hc⟩ := h3 hn
  refine ⟨g, 0, e2, ⟨Nat.le_trans hlb (h2 _ e2), hg⟩, fun j a hj i hi => ?_⟩
  have hlt := (List.getElem?_eq_some_iff.1 hj).1
  have hb : j * R.size + i < l.length * R.size := by
    have := Nat.mul_le_mul_right R.size (show j + 1 ≤ l.length by omega)
    rw [Nat.succ_mul] at this
    omega
  rw [Nat.zero_add, hc _ hb]
  exact flat_get R l j i a hj hi
theorem Rows.below_app (h : Rows R w lo base et v l) (hg : w.grownBy w' v.ownBlock) (hb : base ≤ w.heap.size) : Below base w w' := h.1.below_app hg hb
theorem Rows.own (h : Rows R w lo base et v l) (k : Nat) (hk : v.ownBlock = some k) : base ≤ k ∧ k < w.heap.size := h.1.lt k hk
/-- what lies in blocks from m on is apart from a row that was there before. -/
theorem Rows.apart (h : Rows R w lo base et v l) {m : Nat} (hm : w.heap.size ≤ m) (hlo : lo ≤ m) (b : Nat) (hb : m ≤ b) : lo ≤ b ∧ v.ownBlock ≠ some b :=
  ⟨Nat.le_trans hlo hb, fun e => by have := (h.own b e).2; omega⟩
variable {P : Program} {st : TypeId} {bytes : Nat} {z : Value} {o : Oper} {a : Act} {Q : Exit → Act → World → Prop} {KQ : Act → World → Prop}
/-- 'append(v, x...)': x reads as the elements m. -/
theorem wp_rows (E : ElemOk P st et R.size bytes z) (s x : Operand)
    (ho : o.op = .call { callee := .builtin .append, args := #[s, x], argTypes := #[st, st] }) (h : Rows R w lo base et v l) (hs : a.eval s = v) {X : Option Addr} {k c : Nat} {m : List α} (hx : a.eval x = .slice X k c) (hm : Seen R w S X k m)
    (hok : ∀ e ∈ m, R.ok w (fun b => lo ≤ b ∧ b < w.heap.size ∧ v.ownBlock ≠ some b) e) (h63 : l.length + k ≤ maxLen) (hbytes : (l.length + k) * bytes ≤ 140737488355328) (hbase : base ≤ w.heap.size)
    (hK : ∀ v' w', Rows R w' lo base et v' (l ++ m) → w.grownBy w' v.ownBlock → KQ (a.put o.dst v') w') : o.wp P a w KQ Q := by
  have hml := hm.1
  refine wp_app1 w E s x ho base v l.length (l.flatMap R.cel) hs h.1 X k c (m.flatMap R.cel) hx (by rw [flat_len, hml]) (fun hk => ?_) ?_ h63 hbytes hbase ?_
  · obtain ⟨b, off, e, _, hc⟩ := hm.2.2 hk
    refine ⟨b, off, e, fun j hj => ?_⟩
    have hdiv : j / R.size < m.length := by rw [hml]; exact Nat.div_lt_of_lt_mul (by rw [Nat.mul_comm]; exact hj)
    have hmod : j % R.size < R.size := Nat.mod_lt _ R.pos
    have e1 : j / R.size * R.size + j % R.size = j := Nat.div_add_mod' j R.size
    have h1 := hc (j / R.size) _ (List.getElem?_eq_getElem hdiv) (j % R.size) hmod
    have h2 := flat_get R m (j / R.size) (j % R.size) _ (List.getElem?_eq_getElem hdiv) hmod
    rw [e1] at h1 h2
    rw [h1, h2]
  · intro u hu
    obtain ⟨a, _, hu⟩ := List.mem_flatMap.1 hu
    exact R.one a u hu
  · intro v' w' h1 h2 h3
    refine hK v' w' ⟨?_, ?_⟩ h2
    · rw [List.flatMap_append, List.length_append, hml]; exact h1
    · intro e he
      have hold : R.ok w (fun b => lo ≤ b ∧ b < w.heap.size ∧ v.ownBlock ≠ some b) e := by
        rcases List.mem_append.1 he with he | he
        · exact h.2 e he
        · exact hok e he
      refine R.more (R.keep hold fun p hp => ?_) fun b q => ⟨q.1, Nat.lt_of_lt_of_le q.2.1 h2.size, ?_⟩
      · unfold World.cell?
        rw [h2.block p.block hp.2.1 (fun e => hp.2.2 e.symm)]
      · rcases h3 with e | e
        · rw [e]; exact q.2.2
        · rw [e]; intro e2; injection e2 with e2; have := q.2.1; omega
theorem wpList_rows (E : ElemOk P st et R.size bytes z) {ops : Array Oper} {rest : List Oper} (hgd : o.guard = none) (s x : Operand)
    (ho : o.op = .call { callee := .builtin .append, args := #[s, x], argTypes := #[st, st] }) (h : Rows R w lo base et v l) (hs : a.eval s = v) {X : Option Addr} {k c : Nat} {m : List α} (hx : a.eval x = .slice X k c) (hm : Seen R w S X k m)
    (hok : ∀ e ∈ m, R.ok w (fun b => lo ≤ b ∧ b < w.heap.size ∧ v.ownBlock ≠ some b) e) (h63 : l.length + k ≤ maxLen) (hbytes : (l.length + k) * bytes ≤ 140737488355328) (hbase : base ≤ w.heap.size)
    (hK : ∀ v' w', Rows R w' lo base et v' (l ++ m) → w.grownBy w' v.ownBlock → wpList P ops Q rest (a.put o.dst v') w') : wpList P ops Q (o :: rest) a w :=
  wpList_plain hgd fun _ hK' => wp_rows E s x ho h hs hx hm hok h63 hbytes hbase fun v' w' h1 h2 => hK' _ _ (hK v' w' h1 h2)
/-- a block of one element that was just laid. -/
theorem seen_one (w : World) (t : TypeId) (e : α) (cs : Array Value) (hcs : cs.toList = R.cel e) (hok : R.ok w S e) (hS : ∀ b, S b → b < w.heap.size) (hn : S' w.heap.size) (hSS : ∀ b, S b → S' b) :
    Seen R (w.alloc (.cells cs t)) S' (some ⟨w.heap.size, 0, none⟩) 1 [e] := by
  refine ⟨rfl, fun x hx => ?_, fun _ => ⟨w.heap.size, 0, rfl, hn, fun j x hj i hi => ?_⟩⟩
  · obtain rfl : x = e := by simpa using hx
    exact R.more (R.keep hok fun p hp => World.cell?_alloc_lt w _ p (hS _ hp)) hSS
  · obtain ⟨rfl, rfl⟩ : j = 0 ∧ x = e := by
      cases j with
      | zero => simp at hj; exact ⟨rfl, hj.symm⟩
      | succ j => simp at hj
    rw [Nat.zero_add, Nat.zero_mul, Nat.zero_add, (Blk.new w t cs).cell i, ← hcs]
    simp
end
end Go.Proofs.YtecmhakapomepaaGreat

namespace Go.Proofs.YtecmhakapomepaaGreat
set_option linter.unusedVariables false
open Go Go.RowKit Go.Maps Go.MapKept Go.ChangeMaps

def kv (x : MapEntry) : Value × Value := (x.key, x.val)
/-- block b is a map of these entries. -/
def Ent (P : Program) (K : TypeId) (w : World) (b : Nat) (l : List (Value × Value)) : Prop :=
  ∃ es clock, w.heap[b]? = some (.map es clock) ∧ Stamped es clock ∧ (∀ x ∈ es.toList, ∃ kl, keyOf P K x.key = some kl) ∧ es.toList.map kv = l
section
variable {P : Program} {K T E : TypeId} {w w' : World} {b : Nat} {l : List (Value × Value)}
theorem Ent.lt (h : Ent P K w b l) : b < w.heap.size := by
  obtain ⟨es, c, hb, _⟩ := h
  by_cases hlt : b < w.heap.size
  · exact hlt
  · rw [Array.getElem?_eq_none (by omega)] at hb; cases hb
theorem Ent.keep (h : Ent P K w b l) (hk : w'.heap[b]? = w.heap[b]?) : Ent P K w' b l := by
  obtain ⟨es, c, hb, h1⟩ := h
  exact ⟨es, c, hk.trans hb, h1⟩
theorem Ent.below {B : Nat} (h : Ent P K w b l) (hb : Below B w w') (hB : b < B) : Ent P K w' b l := h.keep (hb.block b hB)
theorem Ent.grown {row : Option Nat} (h : Ent P K w b l) (hg : w.grownBy w' row) (hr : some b ≠ row) : Ent P K w' b l := h.keep (hg.block b h.lt hr)
theorem Ent.alloc (h : Ent P K w b l) (o : Obj) : Ent P K (w.alloc o) b l := h.keep (Below.heap_alloc w o b h.lt)
theorem Ent.drew (h : Ent P K w b l) : Ent P K w.drew b l := h
theorem Ent.setCell (h : Ent P K w b l) {p : Addr} (hp : b ≠ p.block) (u : Value) : Ent P K (w.setCell p u) b l := h.keep (Below.heap_setCell w p u b hp)
theorem Ent.made (w : World) : Ent P K (w.alloc (.map #[] 0)) w.heap.size [] :=
  ⟨#[], 0, World.alloc_heap_new w _, stamped_empty 0, by simp, rfl⟩
theorem Ent.nodup (h : Ent P K w b l) : (l.map Prod.fst).Nodup := by
  obtain ⟨es, c, _, hs, _, rfl⟩ := h
  rw [List.map_map]
  exact hs.2.2
theorem mem_keys {es : Array MapEntry} {x : MapEntry} (h : x ∈ es.toList) : x.key ∈ (es.toList.map kv).map Prod.fst := by
  rw [List.map_map]; exact List.mem_map.2 ⟨x, h, rfl⟩
theorem Ent.look (h : Ent P K w b l) (KK : Keyed P K) (ht : P.underlying T = some (.map K E)) {z : Value} (hz : (zeroValue E).run P w = .ok z w) {key : Value} {kl : Lit} (hk : keyOf P K key = some kl) (c : Bool) :
    (key ∉ l.map Prod.fst ∧ (Instr.lookup T (.map (some b)) key c).run P w = .ok (if c then .tuple #[z, .bool false] else z) w) ∨
    ∃ v, (key, v) ∈ l ∧ (Instr.lookup T (.map (some b)) key c).run P w = .ok (if c then .tuple #[v, .bool true] else v) w := by
  obtain ⟨es, clock, hb, hs, hkeys, rfl⟩ := h
  rcases KK.find w hk es.toList hkeys with ⟨h1, h2⟩ | ⟨j, e0, h1, h2, h3⟩
  · refine .inl ⟨?_, ?_⟩
    · rw [List.map_map]
      intro hm
      obtain ⟨x, hx, e⟩ := List.mem_map.1 hm
      exact h2 x hx e
    · cases c <;> simp [Instr.lookup, run_underlying ht, MapKept.run_getObj_map hb, KK.check w _ hk, h1, hz, Result.andThen]
  · refine .inr ⟨e0.val, ?_, ?_⟩
    · exact List.mem_map.2 ⟨e0, List.mem_of_getElem? h2, by simp [kv, h3]⟩
    · cases c <;> simp [Instr.lookup, run_underlying ht, MapKept.run_getObj_map hb, KK.check w _ hk, h1, Result.andThen]
theorem Ent.miss (h : Ent P K w b l) (KK : Keyed P K) (ht : P.underlying T = some (.map K E)) {z : Value} (hz : (zeroValue E).run P w = .ok z w) {key : Value} {kl : Lit} (hk : keyOf P K key = some kl) (hm : key ∉ l.map Prod.fst) (c : Bool) :
    (Instr.lookup T (.map (some b)) key c).run P w = .ok (if c then .tuple #[z, .bool false] else z) w := by
  rcases h.look KK ht hz hk c with ⟨_, h2⟩ | ⟨v, h1, _⟩
  · exact h2
  · exact absurd (List.mem_map.2 ⟨_, h1, rfl⟩) hm
theorem nodup_val : ∀ {l : List (Value × Value)}, (l.map Prod.fst).Nodup → ∀ {k v v' : Value}, (k, v) ∈ l → (k, v') ∈ l → v = v'
  | [], _, _, _, _, h, _ => by cases h
  | (a, b) :: l, hn, k, v, v', h, h' => by
    simp only [List.map_cons, List.nodup_cons] at hn
    rcases List.mem_cons.1 h with h | h
    · rcases List.mem_cons.1 h' with h' | h'
      · simp only [Prod.mk.injEq] at h h'; rw [h.2, h'.2]
      · simp only [Prod.mk.injEq] at h; rw [← h.1] at hn; exact absurd (List.mem_map.2 ⟨_, h', rfl⟩) hn.1
    · rcases List.mem_cons.1 h' with h' | h'
      · simp only [Prod.mk.injEq] at h'; rw [← h'.1] at hn; exact absurd (List.mem_map.2 ⟨_, h, rfl⟩) hn.1
      · exact nodup_val hn.2 h h'
theorem Ent.hit (h : Ent P K w b l) (KK : Keyed P K) (ht : P.underlying T = some (.map K E)) {key v : Value} {kl : Lit} (hk : keyOf P K key = some kl) (hm : (key, v) ∈ l) (c : Bool) :
    (Instr.lookup T (.map (some b)) key c).run P w = .ok (if c then .tuple #[v, .bool true] else v) w := by
  have hn := h.nodup
  obtain ⟨es, clock, hb, hs, hkeys, rfl⟩ := h
  rcases KK.find w hk es.toList hkeys with ⟨h1, h2⟩ | ⟨j, e0, h1, h2, h3⟩
  · obtain ⟨x, hx, e⟩ := List.mem_map.1 hm
    simp only [kv, Prod.mk.injEq] at e
    exact absurd e.1 (h2 x hx)
  · have e : e0.val = v := nodup_val hn (List.mem_map.2 ⟨e0, List.mem_of_getElem? h2, by simp [kv, h3]⟩) hm
    subst e
    cases c <;> simp [Instr.lookup, run_underlying ht, MapKept.run_getObj_map hb, KK.check w _ hk, h1, Result.andThen]
theorem Ent.len (h : Ent P K w b l) (ht : P.underlying T = some (.map K E)) (ty : TypeId) : (Builtin.len_ #[T] ty #[.map (some b)]).run P w = .ok (.int .i64 l.length) w := by
  obtain ⟨es, clock, hb, hs, hkeys, rfl⟩ := h
  simp [Builtin.len_, run_underlying ht, MapKept.run_getObj_map hb, Result.andThen, goInt]
theorem grown_setBlock {es es' : Array MapEntry} {c c' : Nat} (hb : w.heap[b]? = some (.map es c)) : w.grownBy (setBlock w b (.map es' c')) (some b) :=
  ⟨rfl, rfl, rfl, by simp [setBlock], fun i _ hi => heap_setBlock_other hb _ (fun e => hi (by rw [e]))⟩
theorem Ent.put_new (h : Ent P K w b l) (KK : Keyed P K) (ht : P.underlying T = some (.map K E)) {key : Value} {kl : Lit} (hk : keyOf P K key = some kl) (hm : key ∉ l.map Prod.fst) (val : Value) :
    ∃ w', (Instr.mapUpdate T (.map (some b)) key val).run P w = .ok () w' ∧ Ent P K w' b (l ++ [(key, val)]) ∧ w.grownBy w' (some b) := by
  obtain ⟨es, clock, hb, hs, hkeys, rfl⟩ := h
  rcases KK.find w hk es.toList hkeys with ⟨h1, h2⟩ | ⟨j, e0, h1, h2, h3⟩
  · refine ⟨setBlock w b (.map (es.push ⟨key, val, clock⟩) (clock + 1)), ?_, ⟨_, _, heap_setBlock_same hb _, stamped_push hs h2, ?_, ?_⟩, grown_setBlock hb⟩
    · simp [Instr.mapUpdate, run_underlying ht, MapKept.run_getObj_map hb, KK.check w false hk, h1, MapKept.run_setObj_map _ hb, Result.andThen, setBlock]
    · intro x hx
      simp only [Array.toList_push, List.mem_append, List.mem_singleton] at hx
      rcases hx with hx | rfl
      · exact hkeys x hx
      · exact ⟨_, hk⟩
    · simp [kv]
  · exact absurd (h3 ▸ mem_keys (List.mem_of_getElem? h2)) hm
/-- an iterator in block r over the map in block b, of which these entries have come. -/
def Rng (P : Program) (K : TypeId) (w : World) (b r : Nat) (l dn : List (Value × Value)) : Prop :=
  ∃ es clock since seen c0, w.heap[b]? = some (.map es clock) ∧ Stamped es clock ∧ (∀ x ∈ es.toList, ∃ kl, keyOf P K x.key = some kl) ∧ es.toList.map kv = l ∧
    w.heap[r]? = some (.mapIter (some b) since seen c0) ∧ (∀ x ∈ es.toList, x.born < since) ∧ since ≤ c0 ∧ since ≤ clock ∧ (dn ++ (leftOf es seen).toList.map kv).Perm l
theorem Rng.ent {r : Nat} {dn : List (Value × Value)} (h : Rng P K w b r l dn) : Ent P K w b l := by
  obtain ⟨es, clock, since, seen, c0, h1, h2, h3, h4, _⟩ := h
  exact ⟨es, clock, h1, h2, h3, h4⟩
theorem Rng.keep {r : Nat} {dn : List (Value × Value)} (h : Rng P K w b r l dn) (hb : w'.heap[b]? = w.heap[b]?) (hr : w'.heap[r]? = w.heap[r]?) : Rng P K w' b r l dn := by
  obtain ⟨es, clock, since, seen, c0, h1, h2, h3, h4, h5, h6⟩ := h
  exact ⟨es, clock, since, seen, c0, hb.trans h1, h2, h3, h4, hr.trans h5, h6⟩
theorem Rng.ltr {r : Nat} {dn : List (Value × Value)} (h : Rng P K w b r l dn) : r < w.heap.size := by
  obtain ⟨es, clock, since, seen, c0, h1, h2, h3, h4, h5, h6⟩ := h
  by_cases hlt : r < w.heap.size
  · exact hlt
  · rw [Array.getElem?_eq_none (by omega)] at h5; cases h5
theorem Rng.below {B r : Nat} {dn : List (Value × Value)} (h : Rng P K w b r l dn) (hb : Below B w w') (hB : b < B) (hr : r < B) : Rng P K w' b r l dn := h.keep (hb.block b hB) (hb.block r hr)
theorem Rng.nx {r : Nat} {dn : List (Value × Value)} (h : Rng P K w b r l dn) (hb : Below w.heap.size w w') : Rng P K w' b r l dn := h.below hb h.ent.lt h.ltr
theorem Ent.range (h : Ent P K w b l) (ht : P.underlying T = some (.map K E)) :
    ∃ o, (Instr.range T (.map (some b))).run P w = .ok (.pointer (some ⟨w.heap.size, 0, none⟩)) (w.alloc o) ∧ Rng P K (w.alloc o) b w.heap.size l [] := by
  have hlt := h.lt
  obtain ⟨es, clock, hb, hs, hkeys, rfl⟩ := h
  refine ⟨.mapIter (some b) clock #[] clock, run_range_map w T K E b es clock ht hb, es, clock, clock, #[], clock, ?_, hs, hkeys, rfl, World.alloc_heap_new w _, hs.1, Nat.le_refl _, Nat.le_refl _, ?_⟩
  · rw [Below.heap_alloc w _ b hlt]; exact hb
  · have : leftOf es #[] = es := by
      unfold leftOf
      exact Array.filter_eq_self.2 (fun x _ => by simp)
    rw [this]; exact List.Perm.refl _
theorem left_perm {es : Array MapEntry} {seen : Array Nat} {e : MapEntry} (hn : (es.toList.map (·.born)).Nodup) (he : e ∈ (leftOf es seen).toList) :
    (leftOf es seen).toList.Perm (e :: (leftOf es (seen.push e.born)).toList) := by
  have e1 : (leftOf es (seen.push e.born)).toList = (leftOf es seen).toList.filter (fun x => !(x.born == e.born)) := by
    unfold leftOf
    simp only [Array.toList_filter, List.filter_filter]
    refine List.filter_congr (fun x _ => ?_)
    rw [contains_push]
    cases seen.contains x.born <;> cases (x.born == e.born) <;> rfl
  have hn2 : ((leftOf es seen).toList.map (·.born)).Nodup := by
    unfold leftOf
    rw [Array.toList_filter]
    exact hn.sublist (List.filter_sublist.map _)
  rw [e1]
  generalize (leftOf es seen).toList = L at he hn2
  clear e1 hn
  induction L with
  | nil => cases he
  | cons a L ih =>
    simp only [List.map_cons, List.nodup_cons] at hn2
    rcases List.mem_cons.1 he with rfl | he'
    · have : (e :: L).filter (fun x => !(x.born == e.born)) = L := by
        rw [List.filter_cons_of_neg (by simp)]
        refine List.filter_eq_self.2 (fun x hx => ?_)
        have : x.born ≠ e.born := fun h => hn2.1 (List.mem_map.2 ⟨x, hx, h⟩)
        simp [this]
      rw [this]
    · have hne : a.born ≠ e.born := fun h => hn2.1 (List.mem_map.2 ⟨e, he', h.symm⟩)
      rw [List.filter_cons_of_pos (by simp [hne])]
      exact ((ih he' hn2.2).cons a).trans (List.Perm.swap e a _)
theorem heap_setIter {r : Nat} {m : Option Nat} {s c : Nat} {seen : Array Nat} (hr : w.heap[r]? = some (.mapIter m s seen c)) (o : Obj) : (setBlock w r o).heap[r]? = some o ∧ ∀ i, i ≠ r → (setBlock w r o).heap[i]? = w.heap[i]? := heap_set hr
theorem Rng.next {r : Nat} {dn : List (Value × Value)} (h : Rng P K w b r l dn) (ty : TypeId) :
    (dn.Perm l ∧ (Instr.next (.pointer (some ⟨r, 0, none⟩)) false ty).run P w = .ok (.tuple #[.bool false]) w) ∨
    ∃ k v w1, (Instr.next (.pointer (some ⟨r, 0, none⟩)) false ty).run P w = .ok (.tuple #[.bool true, k, v]) w1 ∧ Rng P K w1 b r l (dn ++ [(k, v)]) ∧ (k, v) ∈ l ∧ dn.length < l.length ∧ w.grownBy w1 (some r) ∧
      (Instr.entry (.pointer (some ⟨r, 0, none⟩))).run P w1 = .ok (.tuple #[k, v]) w1 := by
  obtain ⟨es, clock, since, seen, c0, h1, h2, h3, h4, h5, h6, h7, h7', h8⟩ := h
  rcases run_next_at w ty r b since c0 seen es clock h5 h1 h6 h7 with ⟨hz, hrun⟩ | ⟨e, he, w1, hal, hrun⟩
  · refine .inl ⟨?_, hrun⟩
    have : (leftOf es seen).toList = [] := List.eq_nil_of_length_eq_zero (by simpa using hz)
    rwa [this, List.map_nil, List.append_nil] at h8
  · have hh : w1.heap = w.heap := by rcases hal with rfl | rfl <;> rfl
    have hr1 : w1.heap[r]? = some (.mapIter (some b) since seen c0) := by rw [hh]; exact h5
    obtain ⟨q1, q2⟩ := heap_setIter hr1 (.mapIter (some b) since (seen.push e.born) clock)
    have hbr : b ≠ r := fun e => by rw [e, h5] at h1; cases h1
    have hb1 : (setBlock w1 r (.mapIter (some b) since (seen.push e.born) clock)).heap[b]? = some (.map es clock) := by rw [q2 b hbr, hh]; exact h1
    have hel := (mem_left he).1
    have hp := (left_perm h2.2.1 he).map kv
    have h9 : (dn ++ [kv e] ++ (leftOf es (seen.push e.born)).toList.map kv).Perm l := by
      rw [List.append_assoc]
      refine List.Perm.trans (List.Perm.append_left dn ?_) h8
      exact hp.symm
    have hlen := h9.length_eq
    simp only [List.length_append, List.length_cons, List.length_nil] at hlen
    refine .inr ⟨e.key, e.val, _, hrun, ⟨es, clock, since, seen.push e.born, clock, hb1, h2, h3, h4, q1, h6, h7', h7', h9⟩, ?_, by omega, ?_, ?_⟩
    · rw [← h4]; exact List.mem_map.2 ⟨e, hel, rfl⟩
    · refine ⟨?_, ?_, ?_, ?_, fun i _ hi => ?_⟩
      · rcases hal with rfl | rfl <;> rfl
      · rcases hal with rfl | rfl <;> rfl
      · rcases hal with rfl | rfl <;> rfl
      · simp [setBlock, hh]
      · rw [q2 i (fun e => hi (by rw [e])), hh]
    · exact run_entry_at _ r b since seen es clock e q1 hb1 hel h2.2.1
end
/-! at the operations -/
section
variable {P : Program} {K T E : TypeId} {w : World} {b : Nat} {l : List (Value × Value)} {o : Oper} {a : Act} {KQ : Act → World → Prop} {Q : Exit → Act → World → Prop} {ops : Array Oper} {rest : List Oper}
theorem Ent.miss0 (h : Ent P K w b l) (KK : Keyed P K) (ht : P.underlying T = some (.map K E)) {z : Value} (hz : ∀ w, (zeroValue E).run P w = .ok z w) {key : Value} {kl : Lit} (hk : keyOf P K key = some kl) (hm : key ∉ l.map Prod.fst) :
    (Instr.lookup T (.map (some b)) key false).run P w = .ok z w := h.miss KK ht (hz w) hk hm false
theorem Ent.miss1 (h : Ent P K w b l) (KK : Keyed P K) (ht : P.underlying T = some (.map K E)) {z : Value} (hz : ∀ w, (zeroValue E).run P w = .ok z w) {key : Value} {kl : Lit} (hk : keyOf P K key = some kl) (hm : key ∉ l.map Prod.fst) :
    (Instr.lookup T (.map (some b)) key true).run P w = .ok (.tuple #[z, .bool false]) w := h.miss KK ht (hz w) hk hm true
theorem Ent.hit0 (h : Ent P K w b l) (KK : Keyed P K) (ht : P.underlying T = some (.map K E)) {key v : Value} {kl : Lit} (hk : keyOf P K key = some kl) (hm : (key, v) ∈ l) :
    (Instr.lookup T (.map (some b)) key false).run P w = .ok v w := h.hit KK ht hk hm false
theorem Ent.hit1 (h : Ent P K w b l) (KK : Keyed P K) (ht : P.underlying T = some (.map K E)) {key v : Value} {kl : Lit} (hk : keyOf P K key = some kl) (hm : (key, v) ∈ l) :
    (Instr.lookup T (.map (some b)) key true).run P w = .ok (.tuple #[v, .bool true]) w := h.hit KK ht hk hm true
theorem wp_put_new (h : Ent P K w b l) (KK : Keyed P K) (ht : P.underlying T = some (.map K E)) (m x v : Operand) (ho : o.op = .mapUpdate T m x v) (hm : a.eval m = .map (some b)) {key val : Value} (hx : a.eval x = key) (hv : a.eval v = val)
    {kl : Lit} (hk : keyOf P K key = some kl) (hn : key ∉ l.map Prod.fst) (hK : ∀ w', Ent P K w' b (l ++ [(key, val)]) → w.grownBy w' (some b) → KQ (a.put o.dst undef) w') : o.wp P a w KQ Q := by
  obtain ⟨w', hrun, r1, r2⟩ := h.put_new KK ht hk hn val
  unfold Oper.wp
  simp [execOp, ho, hm, hx, hv, hrun, Result.andThen]
  exact hK w' r1 r2
theorem wpList_put_new (hgd : o.guard = none) (h : Ent P K w b l) (KK : Keyed P K) (ht : P.underlying T = some (.map K E)) (m x v : Operand) (ho : o.op = .mapUpdate T m x v) (hm : a.eval m = .map (some b)) {key val : Value} (hx : a.eval x = key) (hv : a.eval v = val)
    {kl : Lit} (hk : keyOf P K key = some kl) (hn : key ∉ l.map Prod.fst) (hK : ∀ w', Ent P K w' b (l ++ [(key, val)]) → w.grownBy w' (some b) → wpList P ops Q rest (a.put o.dst undef) w') : wpList P ops Q (o :: rest) a w :=
  wpList_plain hgd fun _ hK' => wp_put_new h KK ht m x v ho hm hx hv hk hn fun w' h1 h2 => hK' _ _ (hK w' h1 h2)
end
end Go.Proofs.YtecmhakapomepaaGreat
