/- What is walked outside a round holds within one: operations, regions. -/
import Derived.Test.YtejgekoinbdhjaaRfg
import Derived.OwnWalkIn
import Derived.TacticsInMore
import Derived.Deep.RegionHeld3
namespace Go.Proofs.Ytejgekoinbdhjaa
set_option linter.unusedVariables false
open Go Go.RowKit

def noDefer (ops : List Oper) : Bool := ops.all fun o => match o.op with | .defer _ => false | _ => true
section
variable {l0 n : Nat} {P : Program} {o : Oper} {a : Act} {w : World} {next next' : Act → World → Prop} {Q : Exit → Act → World → Prop} {ops : Array Oper}
theorem rows_inR {row : String} {args : Array Value} {R R' : Value → World → Prop} (h : Go.Rows P row args w R) (hr : ∀ v w, R v w → R' v w) : RowsIn (Fence.wide.inRound l0) n P row args w R' := fun c cs _ => by
  obtain ⟨v, w', r, s⟩ := h c cs
  exact ⟨v, w', hr _ _ r, stepsIn_wide.2 s⟩
theorem upon_inR (hn : ∀ a w, next a w → next' a w) (r : Result Next) (h : o.upon P a next Q r) : o.uponIn (Fence.wide.inRound l0) n P a next' Q r := by
  cases r with
  | ok x w' =>
    cases x with
    | value v => exact hn _ _ h
    | skip => exact hn _ _ h
    | defer d => exact hn _ _ h
    | enter f args =>
      refine ⟨fun q => by simp [Fence.inRound, Fence.wide] at q, CallsIn.inRound l0 (callsIn_wide.2 (Calls.mono h fun e w'' q => ?_))⟩
      cases e with
      | returned v => exact hn _ _ q
      | panicked c => exact q
      | outgrown => exact q
    | row r args => exact ⟨fun q => by simp [Fence.inRound, Fence.wide] at q, rows_inR h fun v w q => hn _ _ q⟩
    | _ => exact h.elim
  | halt x w' =>
    cases x with
    | panic v => exact h
    | _ => exact h.elim
theorem wp_inR (hd : ∀ c, o.op ≠ .defer c) (hn : ∀ a w, next a w → next' a w) (h : o.wp P a w next Q) : o.wpIn (Fence.wide.inRound l0) n P a w next' Q :=
  ⟨fun _ _ => trivial, by rw [Fence.inRound_round, Oper.semAt_some _ _ _ hd]; exact upon_inR hn _ h⟩
theorem noDefer_at {l : List Oper} (h : noDefer l = true) (ho : o ∈ l) : ∀ c, o.op ≠ .defer c := fun c e => by
  have := List.all_eq_true.1 h o ho
  rw [e] at this
  cases this
theorem wpOps_inR (hout : ¬ LetsOut Q) (hd : noDefer ops.toList = true) : ∀ (l : List Nat) (a : Act) (w : World), wpOps P ops Q l a w → wpOpsIn (Fence.wide.inRound l0) n P ops Q l a w
  | [], _, _, h => h
  | i :: rest, a, w, h => by
    unfold wpOps at h
    unfold wpOpsIn
    cases ho : ops[i]? with
    | none => rw [ho] at h; exact wpOps_inR hout hd rest a w h
    | some o =>
      rw [ho] at h
      simp only at h ⊢
      split at h
      · rename_i hw
        rw [if_pos hw]
        rcases h with h | ⟨_, h⟩
        · exact wp_inR (noDefer_at hd (by have := Array.mem_of_getElem? ho; simpa using this)) (fun a w q => wpOps_inR hout hd rest a w q) h
        · exact absurd h hout
      · rename_i hw
        rw [if_neg hw]
        exact ⟨fun _ _ => trivial, wpOps_inR hout hd rest _ _ h⟩
theorem wpList_inR (hout : ¬ LetsOut Q) : ∀ (l : List Oper) (hd : noDefer l = true) (a : Act) (w : World), wpList P ops Q l a w → wpListIn (Fence.wide.inRound l0) n P ops Q l a w
  | [], _, _, _, h => h
  | o :: rest, hd, a, w, h => by
    have hd2 : noDefer rest = true := List.all_eq_true.2 fun x hx => List.all_eq_true.1 hd x (List.mem_cons_of_mem _ hx)
    unfold wpList at h
    unfold wpListIn
    split at h
    · rename_i hw
      rw [if_pos hw]
      rcases h with h | ⟨_, h⟩
      · exact wp_inR (noDefer_at hd (by simp)) (fun a w q => wpList_inR hout rest hd2 a w q) h
      · exact absurd h hout
    · rename_i hw
      rw [if_neg hw]
      exact ⟨fun _ _ => trivial, wpList_inR hout rest hd2 _ _ h⟩
/-- a region whose operations stand in their order. -/
theorem region_inR {id : Nat} {l : List Oper} (hout : ¬ LetsOut Q) (hd : noDefer l = true) (h : wpList P l.toArray Q l a w) : (Code.region id l.toArray false).wpIn (Fence.wide.inRound l0) n P Q a w :=
  wpIn_region_lit (wpList_inR hout l hd a w h)
/-- a region that draws its order. -/
theorem region_drawR {id : Nat} {l : List Oper} {S : World → Prop} (hm : P.follows .mixedOrders = true) (hout : ¬ LetsOut Q) (hd : noDefer l = true) (hS : S w.drew)
    (h : S w.drew → wpAnyH P .any l.toArray Q S l.toArray.size (Array.replicate l.toArray.size false) a w.drew) : (Code.region id l.toArray true).wpIn (Fence.wide.inRound l0) n P Q a w :=
  wpIn_region_draw fun t => by
    simp only [Region.schedule, hm, Bool.true_or, if_true]
    exact wpOps_inR hout (by simpa using hd) _ _ _ (wpAny_sound l.toArray.size t _ a _ (wpAny_of_held _ _ _ _ (h hS)))
end
end Go.Proofs.Ytejgekoinbdhjaa
