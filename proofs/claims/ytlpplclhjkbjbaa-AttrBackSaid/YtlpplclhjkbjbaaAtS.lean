/- attr: AttrBack, words. -/
import Derived.Test.YtlpplclhjkbjbaaAtU
import Derived.Deep.DeepCutAuto
namespace Go.Proofs.Ytlpplclhjkbjbaa
set_option linter.unusedVariables false
open Go.RowKit

theorem own_ne {w : World} {base n g : Nat} {v : Value} {l : List UInt8} {T : TypeId} {cs : Array Value} (h : OwnB w base v n l) (hb : Blk w g T cs) (hT : T ≠ 5) : some g ≠ v.ownBlock := by
  rcases h.2 with ⟨h0, _⟩ | ⟨g', cap, cur, q1, q2, q3, _⟩
  · rw [h0]; intro e; cases e
  · rw [q1]
    intro e
    have e2 : g = g' := by injection e
    subst e2
    have : some (Obj.cells cs T (0, 0)) = some (Obj.cells cur 5 (0, 0)) := hb.symm.trans q3
    injection this with this
    injection this with _ h3 _
    exact hT h3
theorem blk_ne {w : World} {g g' : Nat} {T T' : TypeId} {cs cs' : Array Value} (h : Blk w g T cs) (h' : Blk w g' T' cs') (hT : T ≠ T') : some g ≠ some g' := by
  intro e
  injection e with e
  subst e
  have : some (Obj.cells cs T (0, 0)) = some (Obj.cells cs' T' (0, 0)) := h.symm.trans h'
  injection this with this
  injection this with _ h3 _
  exact hT h3
theorem ParseAP.yes2 {w w' : World} {e : Ending} {o : Int} {zs : List Int} {h m : Int} {b : Bool} (hp : ParseAP w w' e (.ok ⟨o, zs, h, m, b⟩)) :
    ∃ A n c, e = .returned (.tuple #[.agg #[.int .i64 o, .slice A n c, .int .u32 h, .int .i64 m, .bool b], .agg #[.int .i64 0, .int .i64 0, .slice none 0 0]]) ∧ Seen intK w' (fun b => w.heap.size ≤ b ∧ b < w'.heap.size) A n zs := by
  obtain ⟨A, n, c, rfl, hS⟩ := hp
  exact ⟨A, n, c, rfl, hS⟩
theorem seen_up {w w' : World} {lo n : Nat} {A : Option Addr} {zs : List Int} (h : Seen intK w (fun b => lo ≤ b ∧ b < w.heap.size) A n zs) (hb : Below w.heap.size w w') : Seen intK w' (fun b => lo ≤ b ∧ b < w'.heap.size) A n zs :=
  (h.below hb fun _ h => h.2).more fun b hb' => ⟨hb'.1, Nat.lt_of_lt_of_le hb'.2 hb.size⟩
theorem seen_upg {w w' : World} {lo n k : Nat} {A : Option Addr} {zs : List Int} (h : Seen intK w (fun b => lo ≤ b ∧ b < w.heap.size) A n zs) (hg : w.grownBy w' (some k)) (hk : k < lo) : Seen intK w' (fun b => lo ≤ b ∧ b < w'.heap.size) A n zs :=
  (h.grown hg fun b hb => ⟨hb.2, by intro e; injection e with e; have := hb.1; omega⟩).more fun b hb' => ⟨hb'.1, Nat.lt_of_lt_of_le hb'.2 hg.size⟩
/-- what the third of AttrBack's parses leaves. -/
def Left8 (w : World) (s10 s11 : Value) (wx : World) : Prop := Below w.heap.size w wx ∧ ∃ g10 g11 X d, s10 = .pointer (some ⟨g10, 0, none⟩) ∧ s11 = .pointer (some ⟨g11, 0, none⟩) ∧ Blk wx g11 31 #[.int .i64 3, .int .i64 1, .slice X 0 d]
theorem left8_mk {w wx : World} {g10 g11 d : Nat} {X : Option Addr} (HB : Below w.heap.size w wx) (h : Blk wx g11 31 #[.int .i64 3, .int .i64 1, .slice X 0 d]) : Left8 w (.pointer (some ⟨g10, 0, none⟩)) (.pointer (some ⟨g11, 0, none⟩)) wx := ⟨HB, g10, g11, X, d, rfl, rfl, h⟩
end Go.Proofs.Ytlpplclhjkbjbaa
