/- Drawn regions by hand, in short words: held_takeA. -/
import Derived.Test.YtlkammmadchjnaaDraw
import Derived.Test.YtlkammmadchjnaaBlk
import Derived.Deep.MidRow
namespace Go.Proofs.Ytlkammmadchjnaa
set_option linter.unusedVariables false
open Go

def plainOp (o : Oper) : Bool := match o.op with
  | .call c => (match c.callee with
    | .builtin .len => true
    | .builtin .cap => true
    | .builtin .min => true
    | .builtin .max => true
    | _ => false)
  | .alloc _ => false
  | .box _ _ => false
  | .buildSlice _ _ _ => false
  | .store _ _ _ => false
  | .insert _ _ _ _ => false
  | .makeMap _ _ => false
  | .makeSlice _ _ _ => false
  | .mapUpdate _ _ _ _ => false
  | .next _ _ => false
  | _ => true
def okTake (md : Region.Mode) (l : List Oper) (listed : Array Bool) (tmps : Array Value) (i : Nat) : Bool :=
  Region.noSelect l.toArray && Region.free md l.toArray listed i && (Region.ready md l.toArray listed).contains i && (match l[i]? with
    | some o => plainOp o && Region.wanted o (yielded l.toArray tmps)
    | none => false)
def okSkip (md : Region.Mode) (l : List Oper) (listed : Array Bool) (tmps : Array Value) (i : Nat) : Bool :=
  Region.noSelect l.toArray && Region.free md l.toArray listed i && (Region.ready md l.toArray listed).contains i && (match l[i]? with
    | some o => !Region.wanted o (yielded l.toArray tmps)
    | none => false)
section
variable {P : Program} {l : List Oper} {Q : Exit → Act → World → Prop} {md : Region.Mode} {S : World → Prop}
/-- operation i is taken first. -/
theorem held_takeA {fuel : Nat} {listed : Array Bool} {a : Act} {w : World} (i : Nat) {o : Oper} (ho : l[i]? = some o) (v : Value) (hok : okTake md l listed a.tmps i = true)
    (hQ : ∀ c a w, Q (.panic c) (a.put o.dst v) w → Q (.panic c) a w) (hS : S w) (hy : ∀ w, S w → (execOp a.eval o).run P w = .ok (.value v) w)
    (h : wpAnyH P md l.toArray Q S fuel (listed.setIfInBounds i true) (a.put o.dst v) w) : wpAnyH P md l.toArray Q S (fuel + 1) listed a w := by
  unfold okTake at hok
  rw [ho] at hok
  simp only [Bool.and_eq_true] at hok
  obtain ⟨⟨⟨h1, h2⟩, h3⟩, _, h4⟩ := hok
  exact wpAnyH_take (by simpa using ho) h1 h2 h3 hQ (.inl ⟨h4, hy⟩) hS h
/-- operation i, whose guard says no. -/
theorem held_skipA {fuel : Nat} {listed : Array Bool} {a : Act} {w : World} (i : Nat) {o : Oper} (ho : l[i]? = some o) (hok : okSkip md l listed a.tmps i = true)
    (hQ : ∀ c a w, Q (.panic c) (a.put o.dst undef) w → Q (.panic c) a w) (hS : S w)
    (h : wpAnyH P md l.toArray Q S fuel (listed.setIfInBounds i true) (a.put o.dst undef) w) : wpAnyH P md l.toArray Q S (fuel + 1) listed a w := by
  unfold okSkip at hok
  rw [ho] at hok
  simp only [Bool.and_eq_true, Bool.not_eq_true'] at hok
  obtain ⟨⟨⟨h1, h2⟩, h3⟩, h4⟩ := hok
  exact wpAnyH_take (by simpa using ho) h1 h2 h3 hQ (.inr ⟨h4, rfl⟩) hS h
/-- operation i is the only one that may come up. -/
theorem held_callA {fuel : Nat} {listed : Array Bool} {a : Act} {w : World} (i : Nat) {o : Oper} (ho : l[i]? = some o) (hr : Region.ready md l.toArray listed = [i])
    (hw : Region.wanted o (yielded l.toArray a.tmps) = true)
    (h : ∀ K : Act → World → Prop, Shut (∀ a w, S w → wpAnyH P md l.toArray Q S fuel (listed.setIfInBounds i true) a w → K a w) → Oper.wp P o a w K Q) : wpAnyH P md l.toArray Q S (fuel + 1) listed a w :=
  wpAnyH_ready hr (by simp) (AllReadyH.cons (o := o) (by simpa using ho) (fun K hK => by
    rw [if_pos hw]
    exact h K (fun a w hS hW => hK.out a w hS (fun _ => hW))) AllReadyH.nil)
end
/-- a load of a whole struct from a block that is known. -/
theorem exec_load_blk {P : Program} {o : Oper} {ev : Operand → Value} {ty : TypeId} {x : Operand} (ho : o.op = .load ty x) {g : Nat} (hx : ev x = .pointer (some ⟨g, 0, none⟩)) {T : TypeId} {cs : Array Value} {w : World} (h : Blk w g T cs)
    (d : TypeDesc) (hu : P.underlying ty = some d) (hd : d.isRow = true) (hi : (P.info? ty).map (·.size) = some cs.size) : (execOp ev o).run P w = .ok (.value (.agg cs)) w := by
  have := run_loadVar_mid (P := P) w g 0 ty cs.toList d (fun j v hj => by rw [Nat.zero_add, h.cell]; simpa using hj) hu hd (by simpa using hi)
  unfold execOp
  simp only [ho, hx, Instr.loadAt, Instr.sureAddr, Sem.run_bind, Sem.run_pure, Result.andThen_ok, this]
theorem grown_cell {w w' : World} {row : Nat} (h : w.grownBy w' (some row)) {b o : Nat} (hb : b < w.heap.size) (hne : b ≠ row) : w'.cell? ⟨b, o, none⟩ = w.cell? ⟨b, o, none⟩ := by
  unfold World.cell?
  rw [h.block b hb (by simpa using hne)]
end Go.Proofs.Ytlkammmadchjnaa
