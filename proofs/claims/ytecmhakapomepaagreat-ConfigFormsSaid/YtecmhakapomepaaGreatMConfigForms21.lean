import Derived.Test.YtecmhakapomepaaGreatMConfigForms15
import Derived.Test.YtecmhakapomepaaGreatMConfigForms13
/- config: a configuration's bytes, and the configuration of bytes, in plain terms. -/
namespace Go.Proofs.YtecmhakapomepaaGreat
set_option linter.unusedVariables false
open Go Go.RowKit

/-- a number in so many bytes. -/
def bz (x : Int) (k : Nat) : List UInt8 := be (x % 18446744073709551616) k
theorem bz_len (x : Int) (k : Nat) : (bz x k).length = k := be_len _ _
def peerY (p : PeerV) : List UInt8 := bz p.as_ 2 ++ bz p.hold 2 ++ bz p.retry 2 ++ bz p.gap 2 ++ bz p.med 4 ++ bz p.prep 1 ++ bz p.back 4
def bndY (b : BndV) : List UInt8 := bz b.id 1 ++ bz b.ad 4 ++ bz b.wt 1
def vipY (v : VipV) : List UInt8 := bz v.ad 4 ++ bz v.pct 1 ++ bz v.L.length 1 ++ v.L.flatMap bndY
def siteY (s : SiteV) : List UInt8 := bz s.id 1 ++ bz s.ad 4 ++ bz s.cost 4
def headY (c : CfgV) : List UInt8 := bz c.as_ 2 ++ bz c.id 4 ++ bz c.own 4 ++ bz c.P.length 1
def tailY (c : CfgV) : List UInt8 := bz c.rise 1 ++ bz c.fall 1 ++ bz c.every 2 ++ bz c.pat 2 ++ bz c.room 2 ++ bz c.idle 4 ++ bz c.queue 4 ++ bz c.dF 4 ++ bz c.dS 4 ++ bz c.dR 4 ++ bz c.dC 4 ++ bz c.dH 2 ++ bz c.ttl 4
def cfgY (c : CfgV) : List UInt8 := headY c ++ c.P.flatMap peerY ++ bz c.V.length 1 ++ c.V.flatMap vipY ++ bz c.S.length 1 ++ c.S.flatMap siteY ++ tailY c
/-- what Bytes answers. -/
def outY (c : CfgV) : List UInt8 := if partC c = 0 then cfgY c else []
theorem flat_next {α : Type} {f : α → List UInt8} {L : List α} {k : Nat} {a : α} (h : L[k]? = some a) : (L.take (k + 1)).flatMap f = (L.take k).flatMap f ++ f a := by
  rw [List.take_add_one, h]
  simp
theorem flat_len_le {α : Type} {f : α → List UInt8} {m : Nat} : ∀ {L : List α}, (∀ a ∈ L, (f a).length ≤ m) → (L.flatMap f).length ≤ L.length * m
  | [], _ => by simp
  | a :: L, h => by
    rw [List.flatMap_cons, List.length_append, List.length_cons, Nat.succ_mul]
    have h1 := h a (by simp)
    have h2 := flat_len_le (L := L) fun b hb => h b (List.mem_cons_of_mem _ hb)
    omega
theorem peerY_len (p : PeerV) : (peerY p).length = 17 := by simp [peerY, bz_len]
theorem bndY_len (b : BndV) : (bndY b).length = 6 := by simp [bndY, bz_len]
theorem siteY_len (s : SiteV) : (siteY s).length = 9 := by simp [siteY, bz_len]
theorem vipY_len (v : VipV) : (vipY v).length = 6 + 6 * v.L.length := by
  have : (v.L.flatMap bndY).length = 6 * v.L.length := by
    induction v.L with
    | nil => rfl
    | cons a L ih => rw [List.flatMap_cons, List.length_append, ih, bndY_len, List.length_cons]; omega
  simp [vipY, bz_len, this]
  omega
/-- the next number of so many bytes, and what is left. -/
def nx (s : St) (k : Nat) : St := (tk s (k : Nat)).1
/-- as many things as are told. -/
def manyP {α : Type} (one : St → α × St) : Nat → St → List α × St
  | 0, s => ([], s)
  | n + 1, s => if s.e = 0 then ((one s).1 :: (manyP one n (one s).2).1, (manyP one n (one s).2).2) else ([], s)
theorem manyP_len {α : Type} (one : St → α × St) : ∀ n s, (manyP one n s).1.length ≤ n
  | 0, s => by simp [manyP]
  | n + 1, s => by
    rw [manyP]
    split
    · have := manyP_len one n (one s).2
      simp
      omega
    · simp
def peerP (s : St) : PeerV × St := (⟨numV s 2, numV (nx s 2) 2, numV (nx (nx s 2) 2) 2, numV (nx (nx (nx s 2) 2) 2) 2, numV (nx (nx (nx (nx s 2) 2) 2) 2) 4, numV (nx (nx (nx (nx (nx s 2) 2) 2) 2) 4) 1, numV (nx (nx (nx (nx (nx (nx s 2) 2) 2) 2) 4) 1) 4⟩, nx (nx (nx (nx (nx (nx (nx s 2) 2) 2) 2) 4) 1) 4)
def bndP (s : St) : BndV × St := (⟨numV s 1, numV (nx s 1) 4, numV (nx (nx s 1) 4) 1⟩, nx (nx (nx s 1) 4) 1)
def siteP (s : St) : SiteV × St := (⟨numV s 1, numV (nx s 1) 4, numV (nx (nx s 1) 4) 4⟩, nx (nx (nx s 1) 4) 4)
def listP {α : Type} (one : St → α × St) (s : St) : List α × St := manyP one (numV s 1).toNat (nx s 1)
/-- a vip without the place of its backends. -/
structure VipW where
  ad : Int
  pct : Int
  L : List BndV
deriving DecidableEq
def VipV.w (v : VipV) : VipW := ⟨v.ad, v.pct, v.L⟩
def vipP (s : St) : VipW × St := (⟨numV s 4, numV (nx s 4) 1, (listP bndP (nx (nx s 4) 1)).1⟩, (listP bndP (nx (nx s 4) 1)).2)
/-- a configuration without the places of its rows. -/
structure CfgW where
  as_ : Int
  id : Int
  own : Int
  P : List PeerV
  V : List VipW
  S : List SiteV
  rise : Int
  fall : Int
  every : Int
  pat : Int
  room : Int
  idle : Int
  queue : Int
  dF : Int
  dS : Int
  dR : Int
  dC : Int
  dH : Int
  ttl : Int
deriving DecidableEq
def CfgV.w (c : CfgV) : CfgW := ⟨c.as_, c.id, c.own, c.P, c.V.map VipV.w, c.S, c.rise, c.fall, c.every, c.pat, c.room, c.idle, c.queue, c.dF, c.dS, c.dR, c.dC, c.dH, c.ttl⟩
/-- the states on the way. -/
def pS0 (l : List UInt8) : St := ⟨l, 0, 0⟩
def pS1 (l : List UInt8) : St := nx (pS0 l) 2
def pS2 (l : List UInt8) : St := nx (pS1 l) 4
def pS3 (l : List UInt8) : St := nx (pS2 l) 4
def pS4 (l : List UInt8) : St := (listP peerP (pS3 l)).2
def pS5 (l : List UInt8) : St := (listP vipP (pS4 l)).2
def pS6 (l : List UInt8) : St := (listP siteP (pS5 l)).2
def pS7 (l : List UInt8) : St := nx (pS6 l) 1
def pS8 (l : List UInt8) : St := nx (pS7 l) 1
def pS9 (l : List UInt8) : St := nx (pS8 l) 2
def pS10 (l : List UInt8) : St := nx (pS9 l) 2
def pS11 (l : List UInt8) : St := nx (pS10 l) 2
def pS12 (l : List UInt8) : St := nx (pS11 l) 4
def pS13 (l : List UInt8) : St := nx (pS12 l) 4
def pS14 (l : List UInt8) : St := nx (pS13 l) 4
def pS15 (l : List UInt8) : St := nx (pS14 l) 4
def pS16 (l : List UInt8) : St := nx (pS15 l) 4
def pS17 (l : List UInt8) : St := nx (pS16 l) 4
def pS18 (l : List UInt8) : St := nx (pS17 l) 2
def pS19 (l : List UInt8) : St := nx (pS18 l) 4
def rawP (l : List UInt8) : CfgW := ⟨numV (pS0 l) 2, numV (pS1 l) 4, numV (pS2 l) 4, (listP peerP (pS3 l)).1, (listP vipP (pS4 l)).1, (listP siteP (pS5 l)).1, numV (pS6 l) 1, numV (pS7 l) 1, numV (pS8 l) 2, numV (pS9 l) 2, numV (pS10 l) 2, numV (pS11 l) 4, numV (pS12 l) 4, numV (pS13 l) 4, numV (pS14 l) 4, numV (pS15 l) 4, numV (pS16 l) 4, numV (pS17 l) 2, numV (pS18 l) 4⟩
/-- the same, its rows nowhere. -/
def VipW.v (v : VipW) : VipV := ⟨v.ad, v.pct, none, 0, 0, v.L⟩
def CfgW.c (c : CfgW) : CfgV := ⟨c.as_, c.id, c.own, none, 0, 0, c.P, none, 0, 0, c.V.map VipW.v, none, 0, 0, c.S, c.rise, c.fall, c.every, c.pat, c.room, c.idle, c.queue, c.dF, c.dS, c.dR, c.dC, c.dH, c.ttl⟩
theorem vips_wv (V : List VipV) : (V.map VipV.w).map VipW.v = V.map fun v => ⟨v.ad, v.pct, none, 0, 0, v.L⟩ := by
  rw [List.map_map]; rfl
theorem vipAt_w (own : Int) (V : List VipV) (k : Nat) : vipAt own (V.map fun v => ⟨v.ad, v.pct, none, 0, 0, v.L⟩) k = vipAt own V k := by
  unfold vipAt
  rw [List.getElem?_map]
  cases h : V[k]? with
  | none => rfl
  | some v =>
    simp only [Option.map_some]
    rw [← List.map_take, List.map_map]
    rfl
theorem part_w (c : CfgV) : partC c.w.c = partC c := by
  have h1 : vipsB c.w.c = vipsB c := by
    unfold vipsB
    show (decide (1 ≤ ((c.V.map VipV.w).map VipW.v).length) && decide (((c.V.map VipV.w).map VipW.v).length ≤ 16) && (List.range ((c.V.map VipV.w).map VipW.v).length).all (vipAt c.own ((c.V.map VipV.w).map VipW.v))) = _
    rw [vips_wv, List.length_map]
    congr 2
    funext k
    exact vipAt_w _ _ _
  have h2 : poolsB c.w.c = poolsB c := by
    unfold poolsB
    show ((c.V.map VipV.w).map VipW.v).all poolB = _
    rw [vips_wv, List.all_map]
    rfl
  unfold partC
  rw [h1, h2]
  rfl
theorem cfgY_w (c : CfgV) : cfgY c.w.c = cfgY c := by
  have h1 : c.w.c.V.flatMap vipY = c.V.flatMap vipY := by
    show ((c.V.map VipV.w).map VipW.v).flatMap vipY = _
    rw [vips_wv, List.flatMap_map]
    rfl
  have h2 : c.w.c.V.length = c.V.length := by
    show ((c.V.map VipV.w).map VipW.v).length = _
    rw [List.length_map, List.length_map]
  unfold cfgY
  rw [h1, h2]
  rfl
theorem outY_w {c : CfgV} {x : CfgW} (h : c.w = x) : outY x.c = outY c := by
  subst h
  unfold outY
  rw [part_w, cfgY_w]
def zeroW : CfgW := ⟨0, 0, 0, [], [], [], 0, 0, 0, 0, 0, 0, 0, 0, 0, 0, 0, 0, 0⟩
/-- what Parse answers. -/
def goodP (l : List UInt8) : Bool := decide (endV (pS19 l) = 0) && decide (outY (rawP l).c = l)
def parseW (l : List UInt8) : CfgW := if goodP l = true then rawP l else zeroW
def parseE (l : List UInt8) : Int := if goodP l = true then 0 else 4
end Go.Proofs.YtecmhakapomepaaGreat
