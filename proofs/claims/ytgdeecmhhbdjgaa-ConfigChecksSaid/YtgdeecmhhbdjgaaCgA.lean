/- config: what a configuration is in plain terms; how it lies; a law's argument opened. -/
import Derived.Test.YtgdeecmhhbdjgaaLib
import Derived.Test.YtgdeecmhhbdjgaaRow2
import Derived.Test.YtgdeecmhhbdjgaaOpen3
namespace Go.Proofs.Ytgdeecmhhbdjgaa
set_option linter.unusedVariables false
open Go Go.RowKit Go.ChangeShapes Go.WideShapes Go.ChangeAt

def IsI (z : Int) : Prop := -9223372036854775808 ≤ z ∧ z ≤ 9223372036854775807
def IsU (z : Int) : Prop := 0 ≤ z ∧ z ≤ 4294967295
theorem isI_wf {z : Int} (h : (Lit.int .i64 z).wf = true) : IsI z := by
  simp only [Lit.wf, Bool.and_eq_true, decide_eq_true_eq] at h
  exact h
theorem isU_wf {z : Int} (h : (Lit.int .u32 z).wf = true) : IsU z := bounds_u32 h
structure PeerV where
  as_ : Int
  hold : Int
  retry : Int
  gap : Int
  med : Int
  prep : Int
  back : Int
deriving DecidableEq
structure BndV where
  id : Int
  ad : Int
  wt : Int
deriving DecidableEq
structure VipV where
  ad : Int
  pct : Int
  A : Option Addr
  n : Nat
  c : Nat
  L : List BndV
structure SiteV where
  id : Int
  ad : Int
  cost : Int
deriving DecidableEq
def peerC (p : PeerV) : List Value := [.int .i64 p.as_, .int .i64 p.hold, .int .i64 p.retry, .int .i64 p.gap, .int .i64 p.med, .int .i64 p.prep, .int .i64 p.back]
def bndC (b : BndV) : List Value := [.int .i64 b.id, .int .u32 b.ad, .int .i64 b.wt]
def vipC (v : VipV) : List Value := [.int .u32 v.ad, .int .i64 v.pct, .slice v.A v.n v.c]
def siteC (s : SiteV) : List Value := [.int .i64 s.id, .int .u32 s.ad, .int .i64 s.cost]
def peerK : RK PeerV where
  size := 7
  cel := peerC
  ok _ _ p := IsI p.as_ ∧ IsI p.hold ∧ IsI p.retry ∧ IsI p.gap ∧ IsI p.med ∧ IsI p.prep ∧ IsI p.back
  pos := by omega
  len _ := rfl
  one _ u hu := by simp [peerC] at hu; rcases hu with rfl | rfl | rfl | rfl | rfl | rfl | rfl <;> rfl
  keep h _ := h
  more h _ := h
def bndK : RK BndV where
  size := 3
  cel := bndC
  ok _ _ b := IsI b.id ∧ IsU b.ad ∧ IsI b.wt
  pos := by omega
  len _ := rfl
  one _ u hu := by simp [bndC] at hu; rcases hu with rfl | rfl | rfl <;> rfl
  keep h _ := h
  more h _ := h
def siteK : RK SiteV where
  size := 3
  cel := siteC
  ok _ _ s := IsI s.id ∧ IsU s.ad ∧ IsI s.cost
  pos := by omega
  len _ := rfl
  one _ u hu := by simp [siteC] at hu; rcases hu with rfl | rfl | rfl <;> rfl
  keep h _ := h
  more h _ := h
def vipK : RK VipV where
  size := 3
  cel := vipC
  ok w S v := IsU v.ad ∧ IsI v.pct ∧ v.n ≤ v.c ∧ v.c ≤ maxLen ∧ Seen bndK w S v.A v.n v.L
  pos := by omega
  len _ := rfl
  one _ u hu := by simp [vipC] at hu; rcases hu with rfl | rfl | rfl <;> rfl
  keep h hk := ⟨h.1, h.2.1, h.2.2.1, h.2.2.2.1, h.2.2.2.2.keep hk⟩
  more h hS := ⟨h.1, h.2.1, h.2.2.1, h.2.2.2.1, h.2.2.2.2.more hS⟩
section
variable {H : Type} {enc : TypeId × Value → H} {P : Program} {W : World} {base : Nat} {spare : Nat → Bool} {held : Bool}
theorem field_peers {t e : TypeId} {fs : Array Field} {u : Value} {n : Nat} {y : DataW H × List MemPlace} {f0 f1 f2 f3 f4 f5 f6 : Field} (ht : P.underlying t = some (.slice e)) (hs : P.underlying e = some (.struct fs)) (hone : Go.Deep.oneCellFields P fs = true) (hC : P.cellsOf e = fs.size) (hz : fs.size = 7)
    (g0 : fs[0]? = some f0) (g1 : fs[1]? = some f1) (g2 : fs[2]? = some f2) (g3 : fs[3]? = some f3) (g4 : fs[4]? = some f4) (g5 : fs[5]? = some f5) (g6 : fs[6]? = some f6)
    (u0 : P.underlying f0.type = some (.int .i64)) (u1 : P.underlying f1.type = some (.int .i64)) (u2 : P.underlying f2.type = some (.int .i64)) (u3 : P.underlying f3.type = some (.int .i64)) (u4 : P.underlying f4.type = some (.int .i64)) (u5 : P.underlying f5.type = some (.int .i64)) (u6 : P.underlying f6.type = some (.int .i64))
    (h : DataW.trod enc P W base spare held n t [u] = some y) :
    ∃ A len cap cs, u = .slice A len cap ∧ len ≤ cap ∧ cap ≤ maxLen ∧ Seen peerK W (fun b => b < W.heap.size) A len cs := by
  obtain ⟨A, len, cap, vs, rfl, h1, h2, h3, h4⟩ := field_rows ht hs hone hC (by omega) h
  rw [hz] at h3
  obtain ⟨rs, hrs⟩ := seen_of_flat (R := peerK) h3 fun i hi => by
    obtain ⟨n0, y0, t0⟩ := h4 i hi 0 f0 g0
    obtain ⟨n1, y1, t1⟩ := h4 i hi 1 f1 g1
    obtain ⟨n2, y2, t2⟩ := h4 i hi 2 f2 g2
    obtain ⟨n3, y3, t3⟩ := h4 i hi 3 f3 g3
    obtain ⟨n4, y4, t4⟩ := h4 i hi 4 f4 g4
    obtain ⟨n5, y5, t5⟩ := h4 i hi 5 f5 g5
    obtain ⟨n6, y6, t6⟩ := h4 i hi 6 f6 g6
    obtain ⟨z0, e0, k0⟩ := field_int u0 t0
    obtain ⟨z1, e1, k1⟩ := field_int u1 t1
    obtain ⟨z2, e2, k2⟩ := field_int u2 t2
    obtain ⟨z3, e3, k3⟩ := field_int u3 t3
    obtain ⟨z4, e4, k4⟩ := field_int u4 t4
    obtain ⟨z5, e5, k5⟩ := field_int u5 t5
    obtain ⟨z6, e6, k6⟩ := field_int u6 t6
    rw [hz] at e0 e1 e2 e3 e4 e5 e6
    refine ⟨⟨z0, z1, z2, z3, z4, z5, z6⟩, fun j hj => ?_, isI_wf k0, isI_wf k1, isI_wf k2, isI_wf k3, isI_wf k4, isI_wf k5, isI_wf k6⟩
    show [Value.int .i64 z0, Value.int .i64 z1, Value.int .i64 z2, Value.int .i64 z3, Value.int .i64 z4, Value.int .i64 z5, Value.int .i64 z6][j]? = some (vs (i * 7 + j))
    match j, hj with
    | 0, _ => rw [e0]; rfl
    | 1, _ => rw [e1]; rfl
    | 2, _ => rw [e2]; rfl
    | 3, _ => rw [e3]; rfl
    | 4, _ => rw [e4]; rfl
    | 5, _ => rw [e5]; rfl
    | 6, _ => rw [e6]; rfl
  exact ⟨A, len, cap, rs, rfl, h1, h2, hrs⟩
theorem field_bnds {t e : TypeId} {fs : Array Field} {u : Value} {n : Nat} {y : DataW H × List MemPlace} {f0 f1 f2 : Field} (ht : P.underlying t = some (.slice e)) (hs : P.underlying e = some (.struct fs)) (hone : Go.Deep.oneCellFields P fs = true) (hC : P.cellsOf e = fs.size) (hz : fs.size = 3)
    (g0 : fs[0]? = some f0) (g1 : fs[1]? = some f1) (g2 : fs[2]? = some f2)
    (u0 : P.underlying f0.type = some (.int .i64)) (u1 : P.underlying f1.type = some (.int .u32)) (u2 : P.underlying f2.type = some (.int .i64))
    (h : DataW.trod enc P W base spare held n t [u] = some y) :
    ∃ A len cap cs, u = .slice A len cap ∧ len ≤ cap ∧ cap ≤ maxLen ∧ Seen bndK W (fun b => b < W.heap.size) A len cs := by
  obtain ⟨A, len, cap, vs, rfl, h1, h2, h3, h4⟩ := field_rows ht hs hone hC (by omega) h
  rw [hz] at h3
  obtain ⟨rs, hrs⟩ := seen_of_flat (R := bndK) h3 fun i hi => by
    obtain ⟨n0, y0, t0⟩ := h4 i hi 0 f0 g0
    obtain ⟨n1, y1, t1⟩ := h4 i hi 1 f1 g1
    obtain ⟨n2, y2, t2⟩ := h4 i hi 2 f2 g2
    obtain ⟨z0, e0, k0⟩ := field_int u0 t0
    obtain ⟨z1, e1, k1⟩ := field_int u1 t1
    obtain ⟨z2, e2, k2⟩ := field_int u2 t2
    rw [hz] at e0 e1 e2
    refine ⟨⟨z0, z1, z2⟩, fun j hj => ?_, isI_wf k0, isU_wf k1, isI_wf k2⟩
    show [Value.int .i64 z0, Value.int .u32 z1, Value.int .i64 z2][j]? = some (vs (i * 3 + j))
    match j, hj with
    | 0, _ => rw [e0]; rfl
    | 1, _ => rw [e1]; rfl
    | 2, _ => rw [e2]; rfl
  exact ⟨A, len, cap, rs, rfl, h1, h2, hrs⟩
theorem field_sites {t e : TypeId} {fs : Array Field} {u : Value} {n : Nat} {y : DataW H × List MemPlace} {f0 f1 f2 : Field} (ht : P.underlying t = some (.slice e)) (hs : P.underlying e = some (.struct fs)) (hone : Go.Deep.oneCellFields P fs = true) (hC : P.cellsOf e = fs.size) (hz : fs.size = 3)
    (g0 : fs[0]? = some f0) (g1 : fs[1]? = some f1) (g2 : fs[2]? = some f2)
    (u0 : P.underlying f0.type = some (.int .i64)) (u1 : P.underlying f1.type = some (.int .u32)) (u2 : P.underlying f2.type = some (.int .i64))
    (h : DataW.trod enc P W base spare held n t [u] = some y) :
    ∃ A len cap cs, u = .slice A len cap ∧ len ≤ cap ∧ cap ≤ maxLen ∧ Seen siteK W (fun b => b < W.heap.size) A len cs := by
  obtain ⟨A, len, cap, vs, rfl, h1, h2, h3, h4⟩ := field_rows ht hs hone hC (by omega) h
  rw [hz] at h3
  obtain ⟨rs, hrs⟩ := seen_of_flat (R := siteK) h3 fun i hi => by
    obtain ⟨n0, y0, t0⟩ := h4 i hi 0 f0 g0
    obtain ⟨n1, y1, t1⟩ := h4 i hi 1 f1 g1
    obtain ⟨n2, y2, t2⟩ := h4 i hi 2 f2 g2
    obtain ⟨z0, e0, k0⟩ := field_int u0 t0
    obtain ⟨z1, e1, k1⟩ := field_int u1 t1
    obtain ⟨z2, e2, k2⟩ := field_int u2 t2
    rw [hz] at e0 e1 e2
    refine ⟨⟨z0, z1, z2⟩, fun j hj => ?_, isI_wf k0, isU_wf k1, isI_wf k2⟩
    show [Value.int .i64 z0, Value.int .u32 z1, Value.int .i64 z2][j]? = some (vs (i * 3 + j))
    match j, hj with
    | 0, _ => rw [e0]; rfl
    | 1, _ => rw [e1]; rfl
    | 2, _ => rw [e2]; rfl
  exact ⟨A, len, cap, rs, rfl, h1, h2, hrs⟩
theorem field_vips {t e tb eb : TypeId} {fs fb : Array Field} {u : Value} {n : Nat} {y : DataW H × List MemPlace} {f0 f1 f2 b0 b1 b2 : Field} (ht : P.underlying t = some (.slice e)) (hs : P.underlying e = some (.struct fs)) (hone : Go.Deep.oneCellFields P fs = true) (hC : P.cellsOf e = fs.size) (hz : fs.size = 3)
    (g0 : fs[0]? = some f0) (g1 : fs[1]? = some f1) (g2 : fs[2]? = some f2) (u0 : P.underlying f0.type = some (.int .u32)) (u1 : P.underlying f1.type = some (.int .i64)) (u2 : P.underlying f2.type = some (.slice eb))
    (hsb : P.underlying eb = some (.struct fb)) (honeb : Go.Deep.oneCellFields P fb = true) (hCb : P.cellsOf eb = fb.size) (hzb : fb.size = 3)
    (q0 : fb[0]? = some b0) (q1 : fb[1]? = some b1) (q2 : fb[2]? = some b2) (v0 : P.underlying b0.type = some (.int .i64)) (v1 : P.underlying b1.type = some (.int .u32)) (v2 : P.underlying b2.type = some (.int .i64))
    (h : DataW.trod enc P W base spare held n t [u] = some y) :
    ∃ A len cap cs, u = .slice A len cap ∧ len ≤ cap ∧ cap ≤ maxLen ∧ Seen vipK W (fun b => b < W.heap.size) A len cs := by
  obtain ⟨A, len, cap, vs, rfl, h1, h2, h3, h4⟩ := field_rows ht hs hone hC (by omega) h
  rw [hz] at h3
  obtain ⟨rs, hrs⟩ := seen_of_flat (R := vipK) h3 fun i hi => by
    obtain ⟨n0, y0, t0⟩ := h4 i hi 0 f0 g0
    obtain ⟨n1, y1, t1⟩ := h4 i hi 1 f1 g1
    obtain ⟨n2, y2, t2⟩ := h4 i hi 2 f2 g2
    obtain ⟨z0, e0, k0⟩ := field_int u0 t0
    obtain ⟨z1, e1, k1⟩ := field_int u1 t1
    obtain ⟨Ab, nb, cb, L, e2, l1, l2, l3⟩ := field_bnds u2 hsb honeb hCb hzb q0 q1 q2 v0 v1 v2 t2
    rw [hz] at e0 e1 e2
    refine ⟨⟨z0, z1, Ab, nb, cb, L⟩, fun j hj => ?_, isU_wf k0, isI_wf k1, l1, l2, l3⟩
    show [Value.int .u32 z0, .int .i64 z1, .slice Ab nb cb][j]? = some (vs (i * 3 + j))
    match j, hj with
    | 0, _ => rw [e0]; rfl
    | 1, _ => rw [e1]; rfl
    | 2, _ => rw [e2]; rfl
  exact ⟨A, len, cap, rs, rfl, h1, h2, hrs⟩
end
/-- a configuration. -/
structure CfgV where
  as_ : Int
  id : Int
  own : Int
  pA : Option Addr
  pn : Nat
  pc : Nat
  P : List PeerV
  vA : Option Addr
  vn : Nat
  vc : Nat
  V : List VipV
  sA : Option Addr
  sn : Nat
  sc : Nat
  S : List SiteV
  rise : Int
  fall : Int
  every : Int
  pat : Int
  room : Int
  idle : Int
  queue : Int
  dF : Int
  dS : Int
  dR : Int
  dC : Int
  dH : Int
  ttl : Int
/-- its cells. -/
def cfgC (c : CfgV) : Array Value := #[.int .i64 c.as_, .int .u32 c.id, .int .u32 c.own, .slice c.pA c.pn c.pc, .slice c.vA c.vn c.vc, .slice c.sA c.sn c.sc, .int .i64 c.rise, .int .i64 c.fall, .int .i64 c.every, .int .i64 c.pat, .int .i64 c.room, .int .i64 c.idle, .int .i64 c.queue, .int .i64 c.dF, .int .i64 c.dS, .int .i64 c.dR, .int .i64 c.dC, .int .i64 c.dH, .int .i64 c.ttl]
structure CfgIn (w : World) (c : CfgV) : Prop where
  id_ : IsU c.id
  own_ : IsU c.own
  nums : IsI c.as_ ∧ IsI c.rise ∧ IsI c.fall ∧ IsI c.every ∧ IsI c.pat ∧ IsI c.room ∧ IsI c.idle ∧ IsI c.queue
  damp : IsI c.dF ∧ IsI c.dS ∧ IsI c.dR ∧ IsI c.dC ∧ IsI c.dH ∧ IsI c.ttl
  lens : (c.pn ≤ c.pc ∧ c.pc ≤ maxLen) ∧ (c.vn ≤ c.vc ∧ c.vc ≤ maxLen) ∧ (c.sn ≤ c.sc ∧ c.sc ≤ maxLen)
  peers : Seen peerK w (fun b => b < w.heap.size) c.pA c.pn c.P
  vips : Seen vipK w (fun b => b < w.heap.size) c.vA c.vn c.V
  sites : Seen siteK w (fun b => b < w.heap.size) c.sA c.sn c.S
theorem seen_nx {α : Type} {R : RK α} {w w' : World} {A : Option Addr} {n : Nat} {l : List α} (h : Seen R w (fun b => b < w.heap.size) A n l) (hb : Below w.heap.size w w') : Seen R w' (fun b => b < w'.heap.size) A n l :=
  (h.below hb fun _ h => h).more fun b h => Nat.lt_of_lt_of_le h hb.size
theorem CfgIn.nx {w w' : World} {c : CfgV} (h : CfgIn w c) (hb : Below w.heap.size w w') : CfgIn w' c :=
  ⟨h.id_, h.own_, h.nums, h.damp, h.lens, seen_nx h.peers hb, seen_nx h.vips hb, seen_nx h.sites hb⟩
theorem peer_cells {w : World} {S : Nat → Prop} {A : Option Addr} {n : Nat} {L : List PeerV} {k : Nat} (h : Seen peerK w S A n L) (hk : k < n) :
    ∃ b off a, A = some ⟨b, off, none⟩ ∧ S b ∧ L[k]? = some a ∧ peerK.ok w S a ∧ w.cell? ⟨b, off + k * 7, none⟩ = some (.int .i64 a.as_) ∧ w.cell? ⟨b, off + k * 7 + 1, none⟩ = some (.int .i64 a.hold) ∧ w.cell? ⟨b, off + k * 7 + 2, none⟩ = some (.int .i64 a.retry) ∧ w.cell? ⟨b, off + k * 7 + 3, none⟩ = some (.int .i64 a.gap) ∧ w.cell? ⟨b, off + k * 7 + 4, none⟩ = some (.int .i64 a.med) ∧ w.cell? ⟨b, off + k * 7 + 5, none⟩ = some (.int .i64 a.prep) ∧ w.cell? ⟨b, off + k * 7 + 6, none⟩ = some (.int .i64 a.back) := by
  have hlt : k < L.length := by rw [h.1]; exact hk
  have hr := List.getElem?_eq_getElem hlt
  obtain ⟨b, off, e, hb, hc⟩ := h.cell hr
  exact ⟨b, off, _, e, hb, hr, h.2.1 _ (List.getElem_mem hlt), hc 0 (by decide), hc 1 (by decide), hc 2 (by decide), hc 3 (by decide), hc 4 (by decide), hc 5 (by decide), hc 6 (by decide)⟩
theorem bnd_cells {w : World} {S : Nat → Prop} {A : Option Addr} {n : Nat} {L : List BndV} {k : Nat} (h : Seen bndK w S A n L) (hk : k < n) :
    ∃ b off a, A = some ⟨b, off, none⟩ ∧ S b ∧ L[k]? = some a ∧ bndK.ok w S a ∧ w.cell? ⟨b, off + k * 3, none⟩ = some (.int .i64 a.id) ∧ w.cell? ⟨b, off + k * 3 + 1, none⟩ = some (.int .u32 a.ad) ∧ w.cell? ⟨b, off + k * 3 + 2, none⟩ = some (.int .i64 a.wt) := by
  have hlt : k < L.length := by rw [h.1]; exact hk
  have hr := List.getElem?_eq_getElem hlt
  obtain ⟨b, off, e, hb, hc⟩ := h.cell hr
  exact ⟨b, off, _, e, hb, hr, h.2.1 _ (List.getElem_mem hlt), hc 0 (by decide), hc 1 (by decide), hc 2 (by decide)⟩
theorem site_cells {w : World} {S : Nat → Prop} {A : Option Addr} {n : Nat} {L : List SiteV} {k : Nat} (h : Seen siteK w S A n L) (hk : k < n) :
    ∃ b off a, A = some ⟨b, off, none⟩ ∧ S b ∧ L[k]? = some a ∧ siteK.ok w S a ∧ w.cell? ⟨b, off + k * 3, none⟩ = some (.int .i64 a.id) ∧ w.cell? ⟨b, off + k * 3 + 1, none⟩ = some (.int .u32 a.ad) ∧ w.cell? ⟨b, off + k * 3 + 2, none⟩ = some (.int .i64 a.cost) := by
  have hlt : k < L.length := by rw [h.1]; exact hk
  have hr := List.getElem?_eq_getElem hlt
  obtain ⟨b, off, e, hb, hc⟩ := h.cell hr
  exact ⟨b, off, _, e, hb, hr, h.2.1 _ (List.getElem_mem hlt), hc 0 (by decide), hc 1 (by decide), hc 2 (by decide)⟩
theorem vip_cells {w : World} {S : Nat → Prop} {A : Option Addr} {n : Nat} {L : List VipV} {k : Nat} (h : Seen vipK w S A n L) (hk : k < n) :
    ∃ b off a, A = some ⟨b, off, none⟩ ∧ S b ∧ L[k]? = some a ∧ vipK.ok w S a ∧ w.cell? ⟨b, off + k * 3, none⟩ = some (.int .u32 a.ad) ∧ w.cell? ⟨b, off + k * 3 + 1, none⟩ = some (.int .i64 a.pct) ∧ w.cell? ⟨b, off + k * 3 + 2, none⟩ = some (.slice a.A a.n a.c) := by
  have hlt : k < L.length := by rw [h.1]; exact hk
  have hr := List.getElem?_eq_getElem hlt
  obtain ⟨b, off, e, hb, hc⟩ := h.cell hr
  exact ⟨b, off, _, e, hb, hr, h.2.1 _ (List.getElem_mem hlt), hc 0 (by decide), hc 1 (by decide), hc 2 (by decide)⟩
end Go.Proofs.Ytgdeecmhhbdjgaa
