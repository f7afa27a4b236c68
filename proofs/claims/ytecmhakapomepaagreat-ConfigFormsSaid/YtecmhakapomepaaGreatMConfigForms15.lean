import Derived.Test.YtecmhakapomepaaGreatMConfigForms2
import Derived.Test.YtecmhakapomepaaGreatMConfigForms10
import Derived.Test.YtecmhakapomepaaGreatMConfigForms5
import Derived.Test.YtecmhakapomepaaGreatMConfigForms4
import Derived.Test.YtecmhakapomepaaGreatMConfigForms12
/- config: when a configuration may be, in plain terms. -/
namespace Go.Proofs.YtecmhakapomepaaGreat
set_option linter.unusedVariables false
open Go Go.RowKit

def rngB (l h n : Int) : Bool := decide (l ≤ n) && decide (n ≤ h)
def sessG (as_ peer id hold retry room : Int) : Bool := rngB 1 65535 as_ && rngB 1 65535 peer && (id != 0) && (hold == 0 || rngB 3 65535 hold) && rngB 1 65535 retry && rngB 8400 65536 room
def spkB (c : CfgV) (p : PeerV) : Bool := sessG c.as_ p.as_ c.id p.hold p.retry c.queue && rngB 0 65535 p.gap
def polB (c : CfgV) (p : PeerV) : Bool := pl.goodV c.as_ c.own p.med p.prep p.back
def peerB (c : CfgV) (p : PeerV) : Bool := spkB c p && polB c p
def selfB (c : CfgV) : Bool := rngB 1 65535 c.as_ && (c.id != 0) && (c.own != 0)
def peersB (c : CfgV) : Bool := decide (c.P.length ≤ 8) && c.P.all (peerB c)
/-- the k-th address may be, and is another one than those ahead of it. -/
def vipAt (own : Int) (l : List VipV) (k : Nat) : Bool := match l[k]? with
  | none => true
  | some v => !((own :: (l.take k).map VipV.ad).contains v.ad) && pl.hopV v.ad
def vipsB (c : CfgV) : Bool := decide (1 ≤ c.V.length) && decide (c.V.length ≤ 16) && (List.range c.V.length).all (vipAt c.own c.V)
/-- backends that are added one by one. -/
def addsM : List Mem → List BndV → Option (List Mem)
  | M, [] => some M
  | M, b :: r => if (addP M b.id b.ad b.wt).1 = 0 then addsM (addP M b.id b.ad b.wt).2 r else none
def poolB (v : VipV) : Bool := rngB 1 100 v.pct && decide (1 ≤ v.L.length) && (addsM [] v.L).isSome
def poolsB (c : CfgV) : Bool := c.V.all poolB
def siteOk (s : SiteV) : Bool := rngB 0 255 s.id && (s.ad != 0) && rngB 0 1000000 s.cost
/-- a site that may be added behind these. -/
def siteB (own : Int) (M : List SiteV) (s : SiteV) : Bool := (s.ad != own) && (siteOk s && !((M.map SiteV.id).contains s.id) && decide (M.length < 8))
def sitesB (c : CfgV) : Bool := (List.range c.S.length).all fun k => match c.S[k]? with
  | none => true
  | some s => siteB c.own (c.S.take k) s
def riseB (r f : Int) : Bool := rngB 1 100 r && rngB 1 100 f
def probeB (e p : Int) : Bool := rngB 1 10000 e && rngB 1 e p
def flowsB (r i : Int) : Bool := rngB 1 1024 r && rngB 1 1000000 i
def tabB (c : CfgV) : Bool := riseB c.rise c.fall && (probeB c.every c.pat && flowsB c.room c.idle)
def dampB (c : CfgV) : Bool := dm.goodR c.dF c.dS c.dR c.dC c.dH
def ttlB (c : CfgV) : Bool := rngB 1 100000 c.ttl && rngB 8400 65536 c.queue
/-- the first part that is wrong; 0: there is none. -/
def partC (c : CfgV) : Nat := if selfB c = false then 1 else if peersB c = false then 2 else if vipsB c = false then 3 else if poolsB c = false then 4 else if sitesB c = false then 5 else if tabB c = false then 6 else if dampB c = false then 7 else if ttlB c = false then 8 else 0
def okC (c : CfgV) : Bool := partC c == 0
theorem range_no {n k : Nat} {p : Nat → Bool} (hk : k < n) (h : p k = false) : (List.range n).all p = false := by
  rw [List.all_eq_false]
  exact ⟨k, by simpa using hk, by simp [h]⟩
theorem range_yes {n : Nat} {p : Nat → Bool} (h : ∀ k, k < n → p k = true) : (List.range n).all p = true := by
  rw [List.all_eq_true]
  intro k hk
  exact h k (by simpa using hk)
theorem all_no {α : Type} {l : List α} {p : α → Bool} {k : Nat} {a : α} (hk : l[k]? = some a) (h : p a = false) : l.all p = false := by
  rw [List.all_eq_false]
  exact ⟨a, List.mem_of_getElem? hk, by simp [h]⟩
theorem all_yes {α : Type} {l : List α} {p : α → Bool} (h : ∀ (k : Nat) a, l[k]? = some a → p a = true) : l.all p = true := by
  rw [List.all_eq_true]
  intro a ha
  obtain ⟨k, hk, rfl⟩ := List.getElem_of_mem ha
  exact h k _ (List.getElem?_eq_getElem hk)
theorem addP_len {M : List Mem} {id ad wt : Int} (h : (addP M id ad wt).1 = 0) : (addP M id ad wt).2 = M ++ [⟨id, ad, wt, false, false⟩] ∧ M.length < 16 ∧ addOk id ad wt = true ∧ findF M id = none := by
  unfold addP at *
  split at h
  · cases h
  · rename_i h1
    split at h
    · cases h
    · rename_i h2
      split at h
      · cases h
      · rename_i h3
        refine ⟨?_, by omega, by simpa using h1, h2⟩
        rw [if_neg h1]
        simp only [if_neg h3]
theorem addsM_len : ∀ (L : List BndV) (M M' : List Mem), addsM M L = some M' → M.length ≤ 16 → M'.length ≤ 16 ∧ M'.length = M.length + L.length
  | [], M, M', h, hM => by
    simp only [addsM, Option.some.injEq] at h
    subst h
    exact ⟨hM, by simp⟩
  | b :: r, M, M', h, hM => by
    rw [addsM] at h
    split at h
    · rename_i h0
      obtain ⟨e, hl, _⟩ := addP_len h0
      rw [e] at h
      have := addsM_len r _ M' h (by simp; omega)
      simp at this ⊢
      omega
    · cases h
/-- one by one from the front. -/
theorem addsM_take {L : List BndV} {M M' : List Mem} {k : Nat} {b : BndV} (h : addsM M (L.take k) = some M') (hb : L[k]? = some b) : addsM M (L.take (k + 1)) = (if (addP M' b.id b.ad b.wt).1 = 0 then some (addP M' b.id b.ad b.wt).2 else none) ∧ ((addP M' b.id b.ad b.wt).1 ≠ 0 → addsM M L = none) := by
  induction L generalizing M k with
  | nil => simp at hb
  | cons a L ih =>
    cases k with
    | zero =>
      simp at hb
      subst hb
      simp only [List.take_zero, addsM, Option.some.injEq] at h
      subst h
      refine ⟨?_, fun hne => ?_⟩
      · simp only [Nat.zero_add, List.take_succ_cons, List.take_zero, addsM]
      · rw [addsM, if_neg hne]
    | succ k =>
      simp only [List.take_succ_cons, addsM] at h ⊢
      rw [List.getElem?_cons_succ] at hb
      split at h
      · rename_i h0
        rw [if_pos h0]
        have := ih h hb
        exact ⟨this.1, fun hne => by simp only [if_pos h0]; exact this.2 hne⟩
      · cases h
end Go.Proofs.YtecmhakapomepaaGreat
