import Derived.Test.YtecmhakapomepaaGreatMConfigForms1
/- What a law's slice of structs reads as, element by element. -/
namespace Go.Proofs.YtecmhakapomepaaGreat
set_option linter.unusedVariables false
open Go.RowKit

theorem seen_of_flat {α : Type} {R : RK α} {W : World} {A : Option Addr} {len : Nat} {vs : Nat → Value} (hF : Flat W W.heap.size A (len * R.size) vs)
    (hx : ∀ i, i < len → ∃ a : α, (∀ j, j < R.size → (R.cel a)[j]? = some (vs (i * R.size + j))) ∧ R.ok W (fun b => b < W.heap.size) a) : ∃ l, Seen R W (fun b => b < W.heap.size) A len l := by
  rcases Nat.eq_zero_or_pos len with h0 | h0
  · subst h0
    exact ⟨[], rfl, by simp, fun h => absurd h (by omega)⟩
  · have hx2 : ∀ i, ∃ a : α, i < len → (∀ j, j < R.size → (R.cel a)[j]? = some (vs (i * R.size + j))) ∧ R.ok W (fun b => b < W.heap.size) a := fun i => by
      by_cases h : i < len
      · obtain ⟨a, ha⟩ := hx i h; exact ⟨a, fun _ => ha⟩
      · obtain ⟨a, _⟩ := hx 0 h0; exact ⟨a, fun h' => absurd h' h⟩
    obtain ⟨F, hFF⟩ := Classical.axiomOfChoice hx2
    refine ⟨(List.range len).map F, by simp, fun a ha => ?_, fun _ => ?_⟩
    · obtain ⟨i, hi, rfl⟩ := List.mem_map.1 ha
      exact (hFF i (by simpa using hi)).2
    · obtain ⟨b, off, e, hb, hc⟩ := hF (Nat.mul_pos h0 R.pos)
      refine ⟨b, off, e, hb, fun j a hj i hi => ?_⟩
      have hjl : j < len := by have := (List.getElem?_eq_some_iff.1 hj).1; simpa using this
      obtain rfl : F j = a := by
        rw [List.getElem?_map, List.getElem?_range hjl] at hj
        exact Option.some.inj hj
      have hlt : j * R.size + i < len * R.size := by
        have := Nat.mul_le_mul_right R.size (show j + 1 ≤ len by omega)
        rw [Nat.succ_mul] at this
        omega
      rw [hc _ hlt, (hFF j hjl).1 i hi]
end Go.Proofs.YtecmhakapomepaaGreat

/- Opening structs with structs in them. -/
namespace Go.Proofs.YtecmhakapomepaaGreat
set_option linter.unusedVariables false
open Go Go.RowKit Go.ChangeShapes Go.WideShapes Go.ChangeAt

section
variable {H : Type} {enc : TypeId × Value → H} {P : Program} {W : World} {base b0 : Nat} {spare : Nat → Bool} {held : Bool} {r : Reach}
/-- a struct by value: its cells, and how they read. -/
theorem open_whole {t : TypeId} {fs : Array Field} {N : Nat} {v : Value} {d : DataW H} {p : List MemPlace} (hs : P.underlying t = some (.struct fs)) (hC : P.cellsOf t = N)
    (hv : Value.okWide P W r b0 t v) (h : DataW.Trod enc P W base spare held t v d p) :
    ∃ (cs : List Value) (n : Nat) (x : DataW H × List MemPlace), v = .agg cs.toArray ∧ cs.length = N ∧ DataW.trod enc P W base spare held n t cs = some x := by
  obtain ⟨cs, rfl, hsz⟩ := okWide_struct hs hv
  obtain ⟨fuel, hf⟩ := h
  exact ⟨cs.toList, fuel, _, rfl, by simpa using hsz.trans hC, hf⟩
/-- a field of it. -/
theorem trod_field {t T : TypeId} {fs : Array Field} {n off k : Nat} {cs : List Value} {x : DataW H × List MemPlace} {f : Field} (hs : P.underlying t = some (.struct fs)) (h : DataW.trod enc P W base spare held n t cs = some x) (j : Nat)
    (hf : fs[j]? = some f) (ho : f.offset = off) (hT : f.type = T) (hk : P.cellsOf T = k) : ∃ (n' : Nat) (y : DataW H × List MemPlace), DataW.trod enc P W base spare held n' T ((cs.drop off).take k) = some y := by
  obtain ⟨xs, n', _, _, _, hlen, hg⟩ := DataW.trod_struct hs h
  have hj : j < xs.length := by rw [hlen]; exact (Array.getElem?_eq_some_iff.1 hf).1
  have := hg j f hf
  rw [List.getElem?_eq_getElem hj, ho, hT, hk] at this
  exact ⟨n', _, this⟩
end
end Go.Proofs.YtecmhakapomepaaGreat

/- config: what a configuration is in plain terms; how it lies; a law's argument opened. -/
namespace Go.Proofs.YtecmhakapomepaaGreat
set_option linter.unusedVariables false
open Go Go.RowKit Go.ChangeShapes Go.WideShapes Go.ChangeAt

def IsI (z : Int) : Prop := -9223372036854775808 ≤ z ∧ z ≤ 9223372036854775807
def IsU (z : Int) : Prop := 0 ≤ z ∧ z ≤ 4294967295
theorem isI_wf {z : Int} (h : (Lit.int .i64 z).wf = true) : IsI z := by
  simp only [Lit.wf, Bool.and_eq_true, decide_eq_true_eq] at h
  exact h
theorem isU_wf {z : Int} (h : (Lit.int .u32 z).wf = true) : IsU z := bounds_u32 h
structure PeerV where
  as_ : Int
  hold : Int
  retry : Int
  gap : Int
  med : Int
  prep : Int
  back : Int
deriving DecidableEq
structure BndV where
  id : Int
  ad : Int
  wt : Int
deriving DecidableEq
structure VipV where
  ad : Int
  pct : Int
  A : Option Addr
  n : Nat
  c : Nat
  L : List BndV
structure SiteV where
  id : Int
  ad : Int
  cost : Int
deriving DecidableEq
def peerC (p : PeerV) : List Value := [.int .i64 p.as_, .int .i64 p.hold, .int .i64 p.retry, .int .i64 p.gap, .int .i64 p.med, .int .i64 p.prep, .int .i64 p.back]
def bndC (b : BndV) : List Value := [.int .i64 b.id, .int .u32 b.ad, .int .i64 b.wt]
def vipC (v : VipV) : List Value := [.int .u32 v.ad, .int .i64 v.pct, .slice v.A v.n v.c]
def siteC (s : SiteV) : List Value := [.int .i64 s.id, .int .u32 s.ad, .int .i64 s.cost]
def peerK : RK PeerV where
  size := 7
  cel := peerC
  ok _ _ p := IsI p.as_ ∧ IsI p.hold ∧ IsI p.retry ∧ IsI p.gap ∧ IsI p.med ∧ IsI p.prep ∧ IsI p.back
  pos := by omega
  len _ := rfl
  one _ u hu := by simp [peerC] at hu; rcases hu with rfl | rfl | rfl | rfl | rfl | rfl | rfl <;> rfl
  keep h _ := h
  more h _ := h
def bndK : RK BndV where
  size := 3
  cel := bndC
  ok _ _ b := IsI b.id ∧ IsU b.ad ∧ IsI b.wt
  pos := by omega
  len _ := rfl
  one _ u hu := by simp [bndC] at hu; rcases hu with rfl | rfl | rfl <;> rfl
  keep h _ := h
  more h _ := h
def siteK : RK SiteV where
  size := 3
  cel := siteC
  ok _ _ s := IsI s.id ∧ IsU s.ad ∧ IsI s.cost
  pos := by omega
  len _ := rfl
  one _ u hu := by simp [siteC] at hu; rcases hu with rfl | rfl | rfl <;> rfl
  keep h _ := h
  more h _ := h
def vipK : RK VipV where
  size := 3
  cel := vipC
  ok w S v := IsU v.ad ∧ IsI v.pct ∧ v.n ≤ v.c ∧ v.c ≤ maxLen ∧ Seen bndK w S v.A v.n v.L
  pos := by omega
  len _ := rfl
  one _ u hu := by simp [vipC] at hu; rcases hu with rfl | rfl | rfl <;> rfl
  keep h hk := ⟨h.1, h.2.1, h.2.2.1, h.2.2.2.1, h.2.2.2.2.keep hk⟩
  more h hS := ⟨h.1, h.2.1, h.2.2.1, h.2.2.2.1, h.2.2.2.2.more hS⟩
section
variable {H : Type} {enc : TypeId × Value → H} {P : Program} {W : World} {base : Nat} {spare : Nat → Bool} {held : Bool}
theorem field_peers {t e : TypeId} {fs : Array Field} {u : Value} {n : Nat} {y : DataW H × List MemPlace} {f0 f1 f2 f3 f4 f5 f6 : Field} (ht : P.underlying t = some (.slice e)) (hs : P.underlying e = some (.struct fs)) (hone : Go.Deep.oneCellFields P fs = true) (hC : P.cellsOf e = fs.size) (hz : fs.size = 7)
    (g0 : fs[0]? = some f0) (g1 : fs[1]? = some f1) (g2 : fs[2]? = some f2) (g3 : fs[3]? = some f3) (g4 : fs[4]? = some f4) (g5 : fs[5]? = some f5) (g6 : fs[6]? = some f6)
    (u0 : P.underlying f0.type = some (.int .i64)) (u1 : P.underlying f1.type = some (.int .i64)) (u2 : P.underlying f2.type = some (.int .i64)) (u3 : P.underlying f3.type = some (.int .i64)) (u4 : P.underlying f4.type = some (.int .i64)) (u5 : P.underlying f5.type = some (.int .i64)) (u6 : P.underlying f6.type = some (.int .i64))
    (h : DataW.trod enc P W base spare held n t [u] = some y) :
    ∃ A len cap cs, u = .slice A len cap ∧ len ≤ cap ∧ cap ≤ maxLen ∧ Seen peerK W (fun b => b < W.heap.size) A len cs := by
  obtain ⟨A, len, cap, vs, rfl, h1, h2, h3, h4⟩ := field_rows ht hs hone hC (by omega) h
  rw [hz] at h3
  obtain ⟨rs, hrs⟩ := seen_of_flat (R := peerK) h3 fun i hi => by
    obtain ⟨n0, y0, t0⟩ := h4 i hi 0 f0 g0
    obtain ⟨n1, y1, t1⟩ := h4 i hi 1 f1 g1
    obtain ⟨n2, y2, t2⟩ := h4 i hi 2 f2 g2
    obtain ⟨n3, y3, t3⟩ := h4 i hi 3 f3 g3
    obtain ⟨n4, y4, t4⟩ := h4 i hi 4 f4 g4
    obtain ⟨n5, y5, t5⟩ := h4 i hi 5 f5 g5
    obtain ⟨n6, y6, t6⟩ := h4 i hi 6 f6 g6
    obtain ⟨z0, e0, k0⟩ := field_int u0 t0
    obtain ⟨z1, e1, k1⟩ := field_int u1 t1
    obtain ⟨z2, e2, k2⟩ := field_int u2 t2
    obtain ⟨z3, e3, k3⟩ := field_int u3 t3
    obtain ⟨z4, e4, k4⟩ := field_int u4 t4
    obtain ⟨z5, e5, k5⟩ := field_int u5 t5
    obtain ⟨z6, e6, k6⟩ := field_int u6 t6
    rw [hz] at e0 e1 e2 e3 e4 e5 e6
    refine ⟨⟨z0, z1, z2, z3, z4, z5, z6⟩, fun j hj => ?_, isI_wf k0, isI_wf k1, isI_wf k2, isI_wf k3, isI_wf k4, isI_wf k5, isI_wf k6⟩
    show [Value.int .i64 z0, Value.int .i64 z1, Value.int .i64 z2, Value.int .i64 z3, Value.int .i64 z4, Value.int .i64 z5, Value.int .i64 z6][j]? = some (vs (i * 7 + j))
    match j, hj with
    | 0, _ => rw [e0]; rfl
    | 1, _ => rw [e1]; rfl
    | 2, _ => rw [e2]; rfl
    | 3, _ => rw [e3]; rfl
    | 4, _ => rw [e4]; rfl
    | 5, _ => rw [e5]; rfl
    | 6, _ => rw [e6]; rfl
  exact ⟨A, len, cap, rs, rfl, h1, h2, hrs⟩
theorem field_bnds {t e : TypeId} {fs : Array Field} {u : Value} {n : Nat} {y : DataW H × List MemPlace} {f0 f1 f2 : Field} (ht : P.underlying t = some (.slice e)) (hs : P.underlying e = some (.struct fs)) (hone : Go.Deep.oneCellFields P fs = true) (hC : P.cellsOf e = fs.size) (hz : fs.size = 3)
    (g0 : fs[0]? = some f0) (g1 : fs[1]? = some f1) (g2 : fs[2]? = some f2)
    (u0 : P.underlying f0.type = some (.int .i64)) (u1 : P.underlying f1.type = some (.int .u32)) (u2 : P.underlying f2.type = some (.int .i64))
    (h : DataW.trod enc P W base spare held n t [u] = some y) :
    ∃ A len cap cs, u = .slice A len cap ∧ len ≤ cap ∧ cap ≤ maxLen ∧ Seen bndK W (fun b => b < W.heap.size) A len cs := by
  obtain ⟨A, len, cap, vs, rfl, h1, h2, h3, h4⟩ := field_rows ht hs hone hC (by omega) h
  rw [hz] at h3
  obtain ⟨rs, hrs⟩ := seen_of_flat (R := bndK) h3 fun i hi => by
    obtain ⟨n0, y0, t0⟩ := h4 i hi 0 f0 g0
    obtain ⟨n1, y1, t1⟩ := h4 i hi 1 f1 g1
    obtain ⟨n2, y2, t2⟩ := h4 i hi 2 f2 g2
    obtain ⟨z0, e0, k0⟩ := field_int u0 t0
    obtain ⟨z1, e1, k1⟩ := field_int u1 t1
    obtain ⟨z2, e2, k2⟩ := field_int u2 t2
    rw [hz] at e0 e1 e2
    refine ⟨⟨z0, z1, z2⟩, fun j hj => ?_, isI_wf k0, isU_wf k1, isI_wf k2⟩
    show [Value.int .i64 z0, Value.int .u32 z1, Value.int .i64 z2][j]? = some (vs (i * 3 + j))
    match j, hj with
    | 0, _ => rw [e0]; rfl
    | 1, _ => rw [e1]; rfl
    | 2, _ => rw [e2]; rfl
  exact ⟨A, len, cap, rs, rfl, h1, h2, hrs⟩
theorem field_sites {t e : TypeId} {fs : Array Field} {u : Value} {n : Nat} {y : DataW H × List MemPlace} {f0 f1 f2 : Field} (ht : P.underlying t = some (.slice e)) (hs : P.underlying e = some (.struct fs)) (hone : Go.Deep.oneCellFields P fs = true) (hC : P.cellsOf e = fs.size) (hz : fs.size = 3)
    (g0 : fs[0]? = some f0) (g1 : fs[1]? = some f1) (g2 : fs[2]? = some f2)
    (u0 : P.underlying f0.type = some (.int .i64)) (u1 : P.underlying f1.type = some (.int .u32)) (u2 : P.underlying f2.type = some (.int .i64))
    (h : DataW.trod enc P W base spare held n t [u] = some y) :
    ∃ A len cap cs, u = .slice A len cap ∧ len ≤ cap ∧ cap ≤ maxLen ∧ Seen siteK W (fun b => b < W.heap.size) A len cs := by
  obtain ⟨A, len, cap, vs, rfl, h1, h2, h3, h4⟩ := field_rows ht hs hone hC (by omega) h
  rw [hz] at h3
  obtain ⟨rs, hrs⟩ := seen_of_flat (R := siteK) h3 fun i hi => by
    obtain ⟨n0, y0, t0⟩ := h4 i hi 0 f0 g0
    obtain ⟨n1, y1, t1⟩ := h4 i hi 1 f1 g1
    obtain ⟨n2, y2, t2⟩ := h4 i hi 2 f2 g2
    obtain ⟨z0, e0, k0⟩ := field_int u0 t0
    obtain ⟨z1, e1, k1⟩ := field_int u1 t1
    obtain ⟨z2, e2, k2⟩ := field_int u2 t2
    rw [hz] at e0 e1 e2
    refine ⟨⟨z0, z1, z2⟩, fun j hj => ?_, isI_wf k0, isU_wf k1, isI_wf k2⟩
    show [Value.int .i64 z0, Value.int .u32 z1, Value.int .i64 z2][j]? = some (vs (i * 3 + j))
    match j, hj with
    | 0, _ => rw [e0]; rfl
    | 1, _ => rw [e1]; rfl
    | 2, _ => rw [e2]; rfl
  exact ⟨A, len, cap, rs, rfl, h1, h2, hrs⟩
theorem field_vips {t e tb eb : TypeId} {fs fb : Array Field} {u : Value} {n : Nat} {y : DataW H × List MemPlace} {f0 f1 f2 b0 b1 b2 : Field} (ht : P.underlying t = some (.slice e)) (hs : P.underlying e = some (.struct fs)) (hone : Go.Deep.oneCellFields P fs = true) (hC : P.cellsOf e = fs.size) (hz : fs.size = 3)
    (g0 : fs[0]? = some f0) (g1 : fs[1]? = some f1) (g2 : fs[2]? = some f2) (u0 : P.underlying f0.type = some (.int .u32)) (u1 : P.underlying f1.type = some (.int .i64)) (u2 : P.underlying f2.type = some (.slice eb))
    (hsb : P.underlying eb = some (.struct fb)) (honeb : Go.Deep.oneCellFields P fb = true) (hCb : P.cellsOf eb = fb.size) (hzb : fb.size = 3)
    (q0 : fb[0]? = some b0) (q1 : fb[1]? = some b1) (q2 : fb[2]? = some b2) (v0 : P.underlying b0.type = some (.int .i64)) (v1 : P.underlying b1.type = some (.int .u32)) (v2 : P.underlying b2.type = some (.int .i64))
    (h : DataW.trod enc P W base spare held n t [u] = some y) :
    ∃ A len cap cs, u = .slice A len cap ∧ len ≤ cap ∧ cap ≤ maxLen ∧ Seen vipK W (fun b => b < W.heap.size) A len cs := by
  obtain ⟨A, len, cap, vs, rfl, h1, h2, h3, h4⟩ := field_rows ht hs hone hC (by omega) h
  rw [hz] at h3
  obtain ⟨rs, hrs⟩ := seen_of_flat (R := vipK) h3 fun i hi => by
    obtain ⟨n0, y0, t0⟩ := h4 i hi 0 f0 g0
    obtain ⟨n1, y1, t1⟩ := h4 i hi 1 f1 g1
    obtain ⟨n2, y2, t2⟩ := h4 i hi 2 f2 g2
    obtain ⟨z0, e0, k0⟩ := field_int u0 t0
    obtain ⟨z1, e1, k1⟩ := field_int u1 t1
    obtain ⟨Ab, nb, cb, L, e2, l1, l2, l3⟩ := field_bnds u2 hsb honeb hCb hzb q0 q1 q2 v0 v1 v2 t2
    rw [hz] at e0 e1 e2
    refine ⟨⟨z0, z1, Ab, nb, cb, L⟩, fun j hj => ?_, isU_wf k0, isI_wf k1, l1, l2, l3⟩
    show [Value.int .u32 z0, .int .i64 z1, .slice Ab nb cb][j]? = some (vs (i * 3 + j))
    match j, hj with
    | 0, _ => rw [e0]; rfl
    | 1, _ => rw [e1]; rfl
    | 2, _ => rw [e2]; rfl
  exact ⟨A, len, cap, rs, rfl, h1, h2, hrs⟩
end
/-- a configuration. -/
structure CfgV where
  as_ : Int
  id : Int
  own : Int
  pA : Option Addr
  pn : Nat
  pc : Nat
  P : List PeerV
  vA : Option Addr
  vn : Nat
  vc : Nat
  V : List VipV
  sA : Option Addr
  sn : Nat
  sc : Nat
  S : List SiteV
  rise : Int
  fall : Int
  every : Int
  pat : Int
  room : Int
  idle : Int
  queue : Int
  dF : Int
  dS : Int
  dR : Int
  dC : Int
  dH : Int
  ttl : Int
/-- its cells. -/
def cfgC (c : CfgV) : Array Value := #[.int .i64 c.as_, .int .u32 c.id, .int .u32 c.own, .slice c.pA c.pn c.pc, .slice c.vA c.vn c.vc, .slice c.sA c.sn c.sc, .int .i64 c.rise, .int .i64 c.fall, .int .i64 c.every, .int .i64 c.pat, .int .i64 c.room, .int .i64 c.idle, .int .i64 c.queue, .int .i64 c.dF, .int .i64 c.dS, .int .i64 c.dR, .int .i64 c.dC, .int .i64 c.dH, .int .i64 c.ttl]
structure CfgIn (w : World) (c : CfgV) : Prop where
  id_ : IsU c.id
  own_ : IsU c.own
  nums : IsI c.as_ ∧ IsI c.rise ∧ IsI c.fall ∧ IsI c.every ∧ IsI c.pat ∧ IsI c.room ∧ IsI c.idle ∧ IsI c.queue
  damp : IsI c.dF ∧ IsI c.dS ∧ IsI c.dR ∧ IsI c.dC ∧ IsI c.dH ∧ IsI c.ttl
  lens : (c.pn ≤ c.pc ∧ c.pc ≤ maxLen) ∧ (c.vn ≤ c.vc ∧ c.vc ≤ maxLen) ∧ (c.sn ≤ c.sc ∧ c.sc ≤ maxLen)
  peers : Seen peerK w (fun b => b < w.heap.size) c.pA c.pn c.P
  vips : Seen vipK w (fun b => b < w.heap.size) c.vA c.vn c.V
  sites : Seen siteK w (fun b => b < w.heap.size) c.sA c.sn c.S
theorem seen_nx {α : Type} {R : RK α} {w w' : World} {A : Option Addr} {n : Nat} {l : List α} (h : Seen R w (fun b => b < w.heap.size) A n l) (hb : Below w.heap.size w w') : Seen R w' (fun b => b < w'.heap.size) A n l :=
  (h.below hb fun _ h => h).more fun b h => Nat.lt_of_lt_of_le h hb.size
theorem CfgIn.nx {w w' : World} {c : CfgV} (h : CfgIn w c) (hb : Below w.heap.size w w') : CfgIn w' c :=
  ⟨h.id_, h.own_, h.nums, h.damp, h.lens, seen_nx h.peers hb, seen_nx h.vips hb, seen_nx h.sites hb⟩
theorem peer_cells {w : World} {S : Nat → Prop} {A : Option Addr} {n : Nat} {L : List PeerV} {k : Nat} (h : Seen peerK w S A n L) (hk : k < n) :
    ∃ b off a, A = some ⟨b, off, none⟩ ∧ S b ∧ L[k]? = some a ∧ peerK.ok w S a ∧ w.cell? ⟨b, off + k * 7, none⟩ = some (.int .i64 a.as_) ∧ w.cell? ⟨b, off + k * 7 + 1, none⟩ = some (.int .i64 a.hold) ∧ w.cell? ⟨b, off + k * 7 + 2, none⟩ = some (.int .i64 a.retry) ∧ w.cell? ⟨b, off + k * 7 + 3, none⟩ = some (.int .i64 a.gap) ∧ w.cell? ⟨b, off + k * 7 + 4, none⟩ = some (.int .i64 a.med) ∧ w.cell? ⟨b, off + k * 7 + 5, none⟩ = some (.int .i64 a.prep) ∧ w.cell? ⟨b, off + k * 7 + 6, none⟩ = some (.int .i64 a.back) := by
  have hlt : k < L.length := by rw [h.1]; exact hk
  have hr := List.getElem?_eq_getElem hlt
  obtain ⟨b, off, e, hb, hc⟩ := h.cell hr
  exact ⟨b, off, _, e, hb, hr, h.2.1 _ (List.getElem_mem hlt), hc 0 (by decide), hc 1 (by decide), hc 2 (by decide), hc 3 (by decide), hc 4 (by decide), hc 5 (by decide), hc 6 (by decide)⟩
theorem bnd_cells {w : World} {S : Nat → Prop} {A : Option Addr} {n : Nat} {L : List BndV} {k : Nat} (h : Seen bndK w S A n L) (hk : k < n) :
    ∃ b off a, A = some ⟨b, off, none⟩ ∧ S b ∧ L[k]? = some a ∧ bndK.ok w S a ∧ w.cell? ⟨b, off + k * 3, none⟩ = some (.int .i64 a.id) ∧ w.cell? ⟨b, off + k * 3 + 1, none⟩ = some (.int .u32 a.ad) ∧ w.cell? ⟨b, off + k * 3 + 2, none⟩ = some (.int .i64 a.wt) := by
  have hlt : k < L.length := by rw [h.1]; exact hk
  have hr := List.getElem?_eq_getElem hlt
  obtain ⟨b, off, e, hb, hc⟩ := h.cell hr
  exact ⟨b, off, _, e, hb, hr, h.2.1 _ (List.getElem_mem hlt), hc 0 (by decide), hc 1 (by decide), hc 2 (by decide)⟩
theorem site_cells {w : World} {S : Nat → Prop} {A : Option Addr} {n : Nat} {L : List SiteV} {k : Nat} (h : Seen siteK w S A n L) (hk : k < n) :
    ∃ b off a, A = some ⟨b, off, none⟩ ∧ S b ∧ L[k]? = some a ∧ siteK.ok w S a ∧ w.cell? ⟨b, off + k * 3, none⟩ = some (.int .i64 a.id) ∧ w.cell? ⟨b, off + k * 3 + 1, none⟩ = some (.int .u32 a.ad) ∧ w.cell? ⟨b, off + k * 3 + 2, none⟩ = some (.int .i64 a.cost) := by
  have hlt : k < L.length := by rw [h.1]; exact hk
  have hr := List.getElem?_eq_getElem hlt
  obtain ⟨b, off, e, hb, hc⟩ := h.cell hr
  exact ⟨b, off, _, e, hb, hr, h.2.1 _ (List.getElem_mem hlt), hc 0 (by decide), hc 1 (by decide), hc 2 (by decide)⟩
theorem vip_cells {w : World} {S : Nat → Prop} {A : Option Addr} {n : Nat} {L : List VipV} {k : Nat} (h : Seen vipK w S A n L) (hk : k < n) :
    ∃ b off a, A = some ⟨b, off, none⟩ ∧ S b ∧ L[k]? = some a ∧ vipK.ok w S a ∧ w.cell? ⟨b, off + k * 3, none⟩ = some (.int .u32 a.ad) ∧ w.cell? ⟨b, off + k * 3 + 1, none⟩ = some (.int .i64 a.pct) ∧ w.cell? ⟨b, off + k * 3 + 2, none⟩ = some (.slice a.A a.n a.c) := by
  have hlt : k < L.length := by rw [h.1]; exact hk
  have hr := List.getElem?_eq_getElem hlt
  obtain ⟨b, off, e, hb, hc⟩ := h.cell hr
  exact ⟨b, off, _, e, hb, hr, h.2.1 _ (List.getElem_mem hlt), hc 0 (by decide), hc 1 (by decide), hc 2 (by decide)⟩
end Go.Proofs.YtecmhakapomepaaGreat

/- Drawn regions whose last operation writes what the others read: the condition S is asked behind every operation but the last one, e. -/
namespace Go.Proofs.YtecmhakapomepaaGreat
set_option linter.unusedVariables false
open Go

section
variable {P : Program} {ops : Array Oper} {Q : Exit → Act → World → Prop} {md : Region.Mode} {S : World → Prop} {e : Nat}
def wpAnyE (P : Program) (md : Region.Mode) (ops : Array Oper) (Q : Exit → Act → World → Prop) (S : World → Prop) (e : Nat) : Nat → Array Bool → Act → World → Prop
  | 0, listed, a, w => Region.ready md ops listed = [] ∧ Q .normal a w
  | fuel + 1, listed, a, w =>
    (Region.ready md ops listed = [] → Q .normal a w) ∧
    ∀ i ∈ Region.ready md ops listed, wpOp P ops Q i (fun a' w' => (i = e ∨ S w') ∧ wpAnyE P md ops Q S e fuel (listed.setIfInBounds i true) a' w') a w
theorem wpAny_of_E : ∀ (fuel : Nat) (listed : Array Bool) (a : Act) (w : World), wpAnyE P md ops Q S e fuel listed a w → wpAny P md ops Q fuel listed a w
  | 0, _, _, _, h => h
  | fuel + 1, _, _, _, h => ⟨h.1, fun i hi => wpOp_mono (fun a' w' h' => wpAny_of_E fuel _ a' w' h'.2) (h.2 i hi)⟩
theorem wpAnyE_first {i : Nat} {oi : Oper} {v : Value} (C : Array Bool → Prop) (hi : ops[i]? = some oi) (hC : ∀ listed, C listed → i ∈ Region.ready md ops listed → ∀ j, j ∈ Region.ready md ops listed → j ≠ i → j ≠ e ∧ C (listed.setIfInBounds j true)) (hsel : ∀ (j : Nat) (o : Oper) cs b, ops[j]? = some o → o.op ≠ .select cs b)
    (hQ : ∀ c a w, Q (.panic c) (a.put oi.dst v) w → Q (.panic c) a w) :
    ∀ (fuel : Nat) (listed : Array Bool) (a : Act) (w : World),
      (∀ j oj, ops[j]? = some oj → j ≠ i → listed.getD j true = false → (∀ e ∈ oj.after, Region.binds md e = true → e.on ≠ i) → oi.apart ops oj = true) →
      C listed → i ∈ Region.ready md ops listed → YieldsIf P ops S oi v a → S w →
      wpAnyE P md ops Q S e fuel (listed.setIfInBounds i true) (a.put oi.dst v) w → wpAnyE P md ops Q S e (fuel + 1) listed a w := by
  intro fuel
  induction fuel with
  | zero =>
    intro listed a w _ _ hr hy hS H
    refine ⟨fun h => (by rw [h] at hr; cases hr), fun j hj => ?_⟩
    by_cases hji : j = i
    · subst hji; exact hy.wpOp hi hS ⟨.inr hS, H⟩
    · have := ready_mono hj hji
      rw [H.1] at this
      cases this
  | succ fuel ih =>
    intro listed a w hfree hc hr hy hS H
    refine ⟨fun h => (by rw [h] at hr; cases hr), fun j hj => ?_⟩
    by_cases hji : j = i
    · subst hji; exact hy.wpOp hi hS ⟨.inr hS, H⟩
    · have h1 := H.2 j (ready_mono hj hji)
      obtain ⟨hjun, oj, hoj, hall⟩ := mem_ready.1 hj
      have hnot : ∀ e ∈ oj.after, Region.binds md e = true → e.on ≠ i := fun e he hb heq => by
        have h1 := hall e he hb
        have h0 := (mem_ready.1 hr).1
        rw [heq] at h1
        rcases Nat.lt_or_ge i listed.size with h' | h'
        · simp [h'] at h0 h1; rw [h0] at h1; cases h1
        · simp [Array.getElem?_eq_none h'] at h1
      obtain ⟨hje, hc2⟩ := hC listed hc hr j hj hji
      have h2 := wpOp_putIf hoj (hfree j oj hoj hji hjun hnot) (fun cs b => hsel i oi cs b hi) (fun cs b => hsel j oj cs b hoj) hQ hy h1
      have hfree' : ∀ k ok, ops[k]? = some ok → k ≠ i → (listed.setIfInBounds j true).getD k true = false →
          (∀ e ∈ ok.after, Region.binds md e = true → e.on ≠ i) → oi.apart ops ok = true := fun k ok hk hki hun hno => by
        refine hfree k ok hk hki ?_ hno
        by_cases hjk : j = k
        · subst hjk; exact hjun
        · rw [getD_set_ne true hjk] at hun; exact hun
      refine wpOp_mono (fun a' w' h3 => ?_) h2
      have hSw := h3.2.1.resolve_left hje
      refine ⟨.inr hSw, ih (listed.setIfInBounds j true) a' w' hfree' hc2 (ready_mono hr (Ne.symm hji)) h3.1 hSw ?_⟩
      rw [Array.setIfInBounds_comm _ _ hji]
      exact h3.2.2
end
section
variable {P : Program} {l : List Oper} {Q : Exit → Act → World → Prop} {md : Region.Mode} {S : World → Prop} {e : Nat}
def okEdge (md : Region.Mode) (l : List Oper) (e i : Nat) : Bool := match l[e]? with
  | some oe => oe.after.any fun x => Region.binds md x && (x.on == i)
  | none => false
theorem okEdge_spec {e i : Nat} (h : okEdge md l e i = true) {listed : Array Bool} (hi : listed.getD i true = false) : e ∉ Region.ready md l.toArray listed := by
  intro he
  obtain ⟨_, oe, hoe, hall⟩ := mem_ready.1 he
  unfold okEdge at h
  have hoe' : l[e]? = some oe := by simpa using hoe
  rw [hoe'] at h
  simp only [Array.any_eq_true', Bool.and_eq_true, beq_iff_eq] at h
  obtain ⟨x, hx, h1, h2⟩ := h
  have h3 := hall x hx h1
  rw [h2] at h3
  rcases Nat.lt_or_ge i listed.size with h' | h'
  · simp [h'] at hi h3; rw [hi] at h3; cases h3
  · simp [Array.getElem?_eq_none h'] at h3
def okWay (md : Region.Mode) (l : List Oper) (e : Nat) (listed : Array Bool) (i : Nat) : Bool :=
  okEdge md l e i || (List.range l.length).any fun k => okEdge md l e k && okEdge md l k i && !listed.getD k true
theorem okWay_spec {i : Nat} {listed : Array Bool} (h : okWay md l e listed i = true) : ∃ C : Array Bool → Prop, C listed ∧ ∀ listed, C listed → i ∈ Region.ready md l.toArray listed → ∀ j, j ∈ Region.ready md l.toArray listed → j ≠ i → j ≠ e ∧ C (listed.setIfInBounds j true) := by
  unfold okWay at h
  rw [Bool.or_eq_true] at h
  rcases h with h | h
  · exact ⟨fun _ => True, trivial, fun listed _ hr j hj hji => ⟨fun e => okEdge_spec h (mem_ready.1 hr).1 (e ▸ hj), trivial⟩⟩
  · rw [List.any_eq_true] at h
    obtain ⟨k, _, h⟩ := h
    simp only [Bool.and_eq_true, Bool.not_eq_true'] at h
    obtain ⟨⟨h1, h2⟩, h3⟩ := h
    refine ⟨fun listed => listed.getD k true = false, h3, fun listed hc hr j hj hji => ⟨fun e => okEdge_spec h1 hc (e ▸ hj), ?_⟩⟩
    have hjk : j ≠ k := fun e => okEdge_spec h2 (mem_ready.1 hr).1 (e ▸ hj)
    show (listed.setIfInBounds j true).getD k true = false
    rw [getD_set_ne true hjk]
    exact hc
theorem wp_region_E {id : Nat} {a : Act} {w : World} (e : Nat) (hm : P.follows .mixedOrders = true) (hS : S w.drew)
    (h : S w.drew → wpAnyE P .any l.toArray Q S e l.toArray.size (Array.replicate l.toArray.size false) a w.drew) : (Code.region id l.toArray true).wp P Q a w :=
  wp_region_any hm (wpAny_of_E _ _ _ _ (h hS))
theorem e_takeA {fuel : Nat} {listed : Array Bool} {a : Act} {w : World} (i : Nat) {o : Oper} (ho : l[i]? = some o) (v : Value) (hok : (okTake md l listed a.tmps i && okWay md l e listed i) = true)
    (hQ : ∀ c a w, Q (.panic c) (a.put o.dst v) w → Q (.panic c) a w) (hS : S w) (hy : ∀ w, S w → (execOp a.eval o).run P w = .ok (.value v) w)
    (h : wpAnyE P md l.toArray Q S e fuel (listed.setIfInBounds i true) (a.put o.dst v) w) : wpAnyE P md l.toArray Q S e (fuel + 1) listed a w := by
  rw [Bool.and_eq_true] at hok
  obtain ⟨hok, hed⟩ := hok
  obtain ⟨C, hC0, hC⟩ := okWay_spec hed
  unfold okTake at hok
  rw [ho] at hok
  simp only [Bool.and_eq_true] at hok
  obtain ⟨⟨⟨h1, h2⟩, h3⟩, _, h4⟩ := hok
  exact wpAnyE_first C (by simpa using ho) hC (Region.noSelect_spec h1) hQ fuel listed a w (Region.free_spec (by simpa using ho) h2) hC0 (by simpa using h3) (.inl ⟨h4, hy⟩) hS h
theorem e_callA {fuel : Nat} {listed : Array Bool} {a : Act} {w : World} (i : Nat) {o : Oper} (ho : l[i]? = some o) (hr : Region.ready md l.toArray listed = [i])
    (hw : Region.wanted o (yielded l.toArray a.tmps) = true)
    (h : ∀ K : Act → World → Prop, Shut (∀ a w, S w → wpAnyE P md l.toArray Q S e fuel (listed.setIfInBounds i true) a w → K a w) → Oper.wp P o a w K Q) : wpAnyE P md l.toArray Q S e (fuel + 1) listed a w := by
  refine ⟨fun h0 => (by rw [hr] at h0; cases h0), fun j hj => ?_⟩
  rw [hr] at hj
  obtain rfl : j = i := by simpa using hj
  have hi : l.toArray[j]? = some o := by simpa using ho
  unfold wpOp
  simp only [hi, hw, if_true]
  exact .inl (h _ fun a w h1 h2 => ⟨.inr h1, h2⟩)
/-- the last one. -/
theorem e_last {fuel : Nat} {listed : Array Bool} {a : Act} {w : World} {o : Oper} (ho : l[e]? = some o) (hr : Region.ready md l.toArray listed = [e])
    (hw : Region.wanted o (yielded l.toArray a.tmps) = true)
    (h : ∀ K : Act → World → Prop, Shut (∀ a w, wpAnyE P md l.toArray Q S e fuel (listed.setIfInBounds e true) a w → K a w) → Oper.wp P o a w K Q) : wpAnyE P md l.toArray Q S e (fuel + 1) listed a w := by
  refine ⟨fun h0 => (by rw [hr] at h0; cases h0), fun j hj => ?_⟩
  rw [hr] at hj
  obtain rfl : j = e := by simpa using hj
  have hi : l.toArray[j]? = some o := by simpa using ho
  unfold wpOp
  simp only [hi, hw, if_true]
  exact .inl (h _ fun a w h2 => ⟨.inl (by simp), h2⟩)
/-- two may come up. -/
theorem e_two {fuel : Nat} {listed : Array Bool} {a : Act} {w : World} (i j : Nat) {oi oj : Oper} (hi : l[i]? = some oi) (hj : l[j]? = some oj) (hr : Region.ready md l.toArray listed = [i, j])
    (hwi : Region.wanted oi (yielded l.toArray a.tmps) = true) (hwj : Region.wanted oj (yielded l.toArray a.tmps) = true)
    (h1 : ∀ K : Act → World → Prop, Shut (∀ a w, S w → wpAnyE P md l.toArray Q S e fuel (listed.setIfInBounds i true) a w → K a w) → Oper.wp P oi a w K Q)
    (h2 : ∀ K : Act → World → Prop, Shut (∀ a w, S w → wpAnyE P md l.toArray Q S e fuel (listed.setIfInBounds j true) a w → K a w) → Oper.wp P oj a w K Q) : wpAnyE P md l.toArray Q S e (fuel + 1) listed a w := by
  refine ⟨fun h0 => (by rw [hr] at h0; cases h0), fun k hk => ?_⟩
  rw [hr] at hk
  have hi' : l.toArray[i]? = some oi := by simpa using hi
  have hj' : l.toArray[j]? = some oj := by simpa using hj
  rcases List.mem_cons.1 hk with rfl | hk
  · unfold wpOp
    simp only [hi', hwi, if_true]
    exact .inl (h1 _ fun a w h1 h2 => ⟨.inr h1, h2⟩)
  · obtain rfl : k = j := by simpa using hk
    unfold wpOp
    simp only [hj', hwj, if_true]
    exact .inl (h2 _ fun a w h1 h2 => ⟨.inr h1, h2⟩)
theorem e_done {listed : Array Bool} {a : Act} {w : World} (hr : Region.ready md l.toArray listed = []) (h : Q .normal a w) : ∀ fuel, wpAnyE P md l.toArray Q S e fuel listed a w
  | 0 => ⟨hr, h⟩
  | _ + 1 => ⟨fun _ => h, by rw [hr]; simp⟩
end
end Go.Proofs.YtecmhakapomepaaGreat

/- Regions that draw their order, by hand: a call whose answer is the same whenever it comes up may be taken first too, though it makes memory. -/
namespace Go.Proofs.YtecmhakapomepaaGreat
set_option linter.unusedVariables false
open Go Go.RowKit

section
variable {P : Program} {ops : Array Oper} {Q : Exit → Act → World → Prop} {md : Region.Mode}
/-- w' is later than w: what lay in w lies there still. -/
def Lat (w w' : World) : Prop := Below w.heap.size w w'
theorem Lat.refl (w : World) : Lat w w := Below.refl _ _
theorem Lat.trans {a b c : World} (h : Lat a b) (k : Lat b c) : Lat a c := Below.trans h (k.mono h.size)
/-- every order, and between two operations the world may have gone on. -/
def wpLat (P : Program) (md : Region.Mode) (ops : Array Oper) (Q : Exit → Act → World → Prop) : Nat → Array Bool → Act → World → Prop
  | 0, listed, a, w => Region.ready md ops listed = [] ∧ Q .normal a w
  | fuel + 1, listed, a, w => (Region.ready md ops listed = [] → Q .normal a w) ∧
      ∀ i ∈ Region.ready md ops listed, wpOp P ops Q i (fun a' w' => Lat w w' ∧ ∀ w'', Lat w' w'' → wpLat P md ops Q fuel (listed.setIfInBounds i true) a' w'') a w
theorem wpAny_of_lat : ∀ (fuel : Nat) (listed : Array Bool) (a : Act) (w : World), wpLat P md ops Q fuel listed a w → wpAny P md ops Q fuel listed a w
  | 0, _, _, _, h => h
  | fuel + 1, _, _, _, h => ⟨h.1, fun i hi => wpOp_mono (fun a' w' h' => wpAny_of_lat fuel _ a' w' (h'.2 w' (Lat.refl w'))) (h.2 i hi)⟩
/-- what operation o is from world w on: it yields v, at once or by a call. -/
def Late (P : Program) (ops : Array Oper) (w : World) (o : Oper) (v : Value) (a : Act) : Prop :=
  Region.wanted o (yielded ops a.tmps) = true ∧ ∀ w', Lat w w' → ∃ (f : FuncId) (args : Array Value), (execOp a.eval o).run P w' = .ok (.enter f args) w' ∧ Calls P f args w' fun e w'' => e = .returned v ∧ Lat w' w''
def Now (P : Program) (ops : Array Oper) (w : World) (o : Oper) (v : Value) (a : Act) : Prop :=
  (Region.wanted o (yielded ops a.tmps) = true ∧ ∀ w', Lat w w' → (execOp a.eval o).run P w' = .ok (.value v) w') ∨ (Region.wanted o (yielded ops a.tmps) = false ∧ v = undef)
theorem Late.on {w w' : World} {o : Oper} {v : Value} {a : Act} (h : Late P ops w o v a) (k : Lat w w') : Late P ops w' o v a := by
  exact ⟨h.1, fun w2 hw => h.2 w2 (k.trans hw)⟩
theorem Now.on {w w' : World} {o : Oper} {v : Value} {a : Act} (h : Now P ops w o v a) (k : Lat w w') : Now P ops w' o v a := by
  rcases h with ⟨h1, h2⟩ | h
  · exact .inl ⟨h1, fun w2 hw => h2 w2 (k.trans hw)⟩
  · exact .inr h
theorem Late.same {w : World} {o : Oper} {v : Value} {a a' : Act} (hy : Late P ops w o v a) (he : execOp a'.eval o = execOp a.eval o) (hw : Region.wanted o (yielded ops a'.tmps) = Region.wanted o (yielded ops a.tmps)) : Late P ops w o v a' := by
  unfold Late at *; rw [he, hw]; exact hy
theorem Now.same {w : World} {o : Oper} {v : Value} {a a' : Act} (hy : Now P ops w o v a) (he : execOp a'.eval o = execOp a.eval o) (hw : Region.wanted o (yielded ops a'.tmps) = Region.wanted o (yielded ops a.tmps)) : Now P ops w o v a' := by
  unfold Now at *; rw [he, hw]; exact hy
theorem Late.run {i : Nat} {o : Oper} {v : Value} {a : Act} {w : World} (hi : ops[i]? = some o) (hy : Late P ops w o v a) {K : Act → World → Prop} (h : ∀ w', Lat w w' → K (a.put o.dst v) w') : wpOp P ops Q i K a w := by
  obtain ⟨hw, h2⟩ := hy
  obtain ⟨f, args, e1, e2⟩ := h2 w (Lat.refl w)
  unfold wpOp
  simp only [hi, hw, if_true]
  refine .inl ?_
  unfold Oper.wp
  rw [e1, Oper.upon]
  refine e2.mono ?_
  rintro e w'' ⟨rfl, hl⟩
  exact h w'' hl
theorem Now.run {i : Nat} {o : Oper} {v : Value} {a : Act} {w : World} (hi : ops[i]? = some o) (hy : Now P ops w o v a) {K : Act → World → Prop} (h : K (a.put o.dst v) w) : wpOp P ops Q i K a w := by
  unfold wpOp
  simp only [hi]
  rcases hy with ⟨hw, h2⟩ | ⟨hw, rfl⟩
  · simp only [hw, if_true]
    refine .inl ?_
    unfold Oper.wp
    rw [h2 w (Lat.refl w), Oper.upon]
    exact h
  · simp only [hw, Bool.false_eq_true, if_false]; exact h
/-- an operation changes its own temporary, and the deferred calls. -/
def Stepped (a : Act) (d : Option Tmp) (a' : Act) : Prop := ∃ (u : Value) (ds : List _), a' = ({ a with defers := ds } : Act).put d u
theorem wpOp_stepped {j : Nat} {oj : Oper} (hj : ops[j]? = some oj) {K : Act → World → Prop} {a : Act} {w : World} (h : wpOp P ops Q j K a w) : wpOp P ops Q j (fun a' w' => Stepped a oj.dst a' ∧ K a' w') a w := by
  unfold wpOp at *
  simp only [hj] at *
  have own : ∀ u, Stepped a oj.dst (a.put oj.dst u) := fun u => ⟨u, a.defers, rfl⟩
  split
  · rename_i hw
    rw [if_pos hw] at h
    refine h.imp (fun h => ?_) id
    unfold Oper.wp at *
    generalize (execOp a.eval oj).run P w = r at *
    rcases r with ⟨n, w'⟩ | ⟨x, w'⟩
    · cases n <;> simp only [Oper.upon] at h ⊢
      case value => exact ⟨own _, h⟩
      case skip => exact ⟨own _, h⟩
      case defer d => exact ⟨⟨_, _, rfl⟩, h⟩
      case enter => exact Calls.mono h fun e w'' he => by cases e <;> first | exact ⟨own _, he⟩ | exact he
      case row => exact Rows.mono h fun _ _ he => ⟨own _, he⟩
    · cases x <;> simp only [Oper.upon] at h ⊢ <;> exact h
  · rename_i hw
    rw [if_neg hw] at h
    exact ⟨own _, h⟩
theorem wpOp_behind {j : Nat} {oi oj : Oper} {v : Value} {b : Bool} (hj : ops[j]? = some oj) (hap : oi.apart ops oj = true) (hsi : ∀ cs b, oi.op ≠ .select cs b) (hsj : ∀ cs b, oj.op ≠ .select cs b)
    (hQ : ∀ c a w, Q (.panic c) (a.put oi.dst v) w → Q (.panic c) a w) {K : Act → World → Prop} {a : Act} {w : World}
    (hv : Region.wanted oi (yielded ops a.tmps) = true ∨ (Region.wanted oi (yielded ops a.tmps) = false ∧ v = undef)) (h : wpOp P ops Q j K (a.put oi.dst v) w) :
    wpOp P ops Q j (fun a' w' => (execOp a'.eval oi = execOp a.eval oi ∧ Region.wanted oi (yielded ops a'.tmps) = Region.wanted oi (yielded ops a.tmps)) ∧ K (a'.put oi.dst v) w') a w := by
  have hy : YieldsIf P ops (fun _ => False) oi v a := hv.imp (fun h => ⟨h, fun _ hf => hf.elim⟩) id
  obtain ⟨_, _, h3⟩ := Oper.apart_spec hap
  refine wpOp_mono (fun a' w' hh => ⟨?_, hh.2.2⟩) (wpOp_stepped hj (wpOp_putIf hj hap hsi hsj hQ hy h))
  obtain ⟨u, ds, rfl⟩ := hh.1
  exact ⟨execOp_put oi hsi _ oj.dst u h3, wanted_put oi _ oj.dst u h3⟩
theorem lat_step {i : Nat} {oi : Oper} {v : Value} (B : World → Act → Prop) (hi : ops[i]? = some oi) (hsel : ∀ (j : Nat) (o : Oper) cs b, ops[j]? = some o → o.op ≠ .select cs b)
    (hQ : ∀ c a w, Q (.panic c) (a.put oi.dst v) w → Q (.panic c) a w)
    (hon : ∀ w w' a, B w a → Lat w w' → B w' a) (hsame : ∀ w a a', B w a → execOp a'.eval oi = execOp a.eval oi → Region.wanted oi (yielded ops a'.tmps) = Region.wanted oi (yielded ops a.tmps) → B w a')
    (hwant : ∀ w a, B w a → Region.wanted oi (yielded ops a.tmps) = true ∨ (Region.wanted oi (yielded ops a.tmps) = false ∧ v = undef))
    (hrun : ∀ w a (K : Act → World → Prop), B w a → (∀ w', Lat w w' → K (a.put oi.dst v) w') → wpOp P ops Q i K a w) :
    ∀ (fuel : Nat) (listed : Array Bool) (a : Act) (w : World),
      (∀ j oj, ops[j]? = some oj → j ≠ i → listed.getD j true = false → (∀ e ∈ oj.after, Region.binds md e = true → e.on ≠ i) → oi.apart ops oj = true) →
      i ∈ Region.ready md ops listed → B w a →
      (∀ w', Lat w w' → wpLat P md ops Q fuel (listed.setIfInBounds i true) (a.put oi.dst v) w') → wpLat P md ops Q (fuel + 1) listed a w := by
  intro fuel
  induction fuel with
  | zero =>
    intro listed a w _ hr hB H
    refine ⟨fun h => (by rw [h] at hr; cases hr), fun j hj => ?_⟩
    by_cases hji : j = i
    · subst hji
      exact hrun w a _ hB fun w' hw => ⟨hw, fun w'' hw2 => H w'' (hw.trans hw2)⟩
    · have := ready_mono hj hji
      rw [(H w (Lat.refl w)).1] at this
      cases this
  | succ fuel ih =>
    intro listed a w hfree hr hB H
    refine ⟨fun h => (by rw [h] at hr; cases hr), fun j hj => ?_⟩
    by_cases hji : j = i
    · subst hji
      exact hrun w a _ hB fun w' hw => ⟨hw, fun w'' hw2 => H w'' (hw.trans hw2)⟩
    · have h1 := (H w (Lat.refl w)).2 j (ready_mono hj hji)
      obtain ⟨hjun, oj, hoj, hall⟩ := mem_ready.1 hj
      have hnot : ∀ e ∈ oj.after, Region.binds md e = true → e.on ≠ i := fun e he hb heq => by
        have h1 := hall e he hb
        have h0 := (mem_ready.1 hr).1
        rw [heq] at h1
        by_cases hlt : i < listed.size
        · simp [hlt] at h0 h1; rw [h0] at h1; cases h1
        · simp [Array.getElem?_eq_none (Nat.le_of_not_lt hlt)] at h1
      have h2 := wpOp_behind (b := true) hoj (hfree j oj hoj hji hjun hnot) (fun cs b => hsel i oi cs b hi) (fun cs b => hsel j oj cs b hoj) hQ (hwant w a hB) h1
      refine wpOp_mono (fun a' w' h3 => ⟨h3.2.1, fun w'' hw => ?_⟩) h2
      have hB' : B w'' a' := hon w w'' a' (hsame w a a' hB h3.1.1 h3.1.2) (h3.2.1.trans hw)
      refine ih (listed.setIfInBounds j true) a' w'' (fun k ok hk hki hun hno => hfree k ok hk hki ?_ hno) (ready_mono hr (Ne.symm hji)) hB' fun w3 hw3 => ?_
      · by_cases hjk : j = k
        · subst hjk; exact hjun
        · rw [getD_set_ne true hjk] at hun; exact hun
      · rw [Array.setIfInBounds_comm _ _ hji]
        exact h3.2.2 w3 (hw.trans hw3)
end
section
variable {P : Program} {l : List Oper} {Q : Exit → Act → World → Prop} {md : Region.Mode}
/-- from world w on, at whatever later world. -/
def latG (P : Program) (md : Region.Mode) (ops : Array Oper) (Q : Exit → Act → World → Prop) (fuel : Nat) (listed : Array Bool) (a : Act) (w : World) : Prop := ∀ w', Lat w w' → wpLat P md ops Q fuel listed a w'
theorem wp_region_lat {id : Nat} {a : Act} {w : World} (hm : P.follows .mixedOrders = true) (h : latG P .any l.toArray Q l.toArray.size (Array.replicate l.toArray.size false) a w) : (Code.region id l.toArray true).wp P Q a w :=
  wp_region_any hm (wpAny_of_lat _ _ _ _ (h w.drew (Below.refl _ _).drew))
/-- operation i is taken first. -/
theorem lat_now {fuel : Nat} {listed : Array Bool} {a : Act} {w : World} (i : Nat) {o : Oper} (ho : l[i]? = some o) (v : Value) (hok : okTake md l listed a.tmps i = true)
    (hQ : ∀ c a w, Q (.panic c) (a.put o.dst v) w → Q (.panic c) a w) (hy : ∀ wq, Lat w wq → (execOp a.eval o).run P wq = .ok (.value v) wq)
    (h : latG P md l.toArray Q fuel (listed.setIfInBounds i true) (a.put o.dst v) w) : latG P md l.toArray Q (fuel + 1) listed a w := by
  unfold okTake at hok
  rw [ho] at hok
  simp only [Bool.and_eq_true] at hok
  obtain ⟨⟨⟨h1, h2⟩, h3⟩, _, h4⟩ := hok
  intro w' hw
  exact lat_step (fun w a => Now P l.toArray w o v a) (by simpa using ho) (Region.noSelect_spec h1) hQ (fun _ _ _ h k => h.on k) (fun _ _ _ h e1 e2 => h.same e1 e2) (fun w a h => h.imp (·.1) id)
    (fun w a K h hK => Now.run (by simpa using ho) h (hK w (Lat.refl w))) fuel listed a w' (Region.free_spec (by simpa using ho) h2) (by simpa using h3) (.inl ⟨h4, fun wq hq => hy wq (hw.trans hq)⟩) fun w2 hw2 => h w2 (hw.trans hw2)
theorem lat_skip {fuel : Nat} {listed : Array Bool} {a : Act} {w : World} (i : Nat) {o : Oper} (ho : l[i]? = some o) (hok : okSkip md l listed a.tmps i = true)
    (hQ : ∀ c a w, Q (.panic c) (a.put o.dst undef) w → Q (.panic c) a w)
    (h : latG P md l.toArray Q fuel (listed.setIfInBounds i true) (a.put o.dst undef) w) : latG P md l.toArray Q (fuel + 1) listed a w := by
  unfold okSkip at hok
  rw [ho] at hok
  simp only [Bool.and_eq_true, Bool.not_eq_true'] at hok
  obtain ⟨⟨⟨h1, h2⟩, h3⟩, h4⟩ := hok
  intro w' hw
  exact lat_step (fun w a => Now P l.toArray w o undef a) (by simpa using ho) (Region.noSelect_spec h1) hQ (fun _ _ _ h k => h.on k) (fun _ _ _ h e1 e2 => h.same e1 e2) (fun w a h => h.imp (·.1) id)
    (fun w a K h hK => Now.run (by simpa using ho) h (hK w (Lat.refl w))) fuel listed a w' (Region.free_spec (by simpa using ho) h2) (by simpa using h3) (.inr ⟨h4, rfl⟩) fun w2 hw2 => h w2 (hw.trans hw2)
def okLate (md : Region.Mode) (l : List Oper) (listed : Array Bool) (tmps : Array Value) (i : Nat) : Bool :=
  Region.noSelect l.toArray && Region.free md l.toArray listed i && (Region.ready md l.toArray listed).contains i && (match l[i]? with
    | some o => Region.wanted o (yielded l.toArray tmps)
    | none => false)
/-- a call whose answer is the same whenever it comes up is taken first. -/
theorem lat_late {fuel : Nat} {listed : Array Bool} {a : Act} {w : World} (i : Nat) {o : Oper} (ho : l[i]? = some o) (v : Value) (hok : okLate md l listed a.tmps i = true)
    (hQ : ∀ c a w, Q (.panic c) (a.put o.dst v) w → Q (.panic c) a w)
    (hy : ∀ wq, Lat w wq → ∃ (f : FuncId) (args : Array Value), (execOp a.eval o).run P wq = .ok (.enter f args) wq ∧ Calls P f args wq fun e w'' => e = .returned v ∧ Lat wq w'')
    (h : latG P md l.toArray Q fuel (listed.setIfInBounds i true) (a.put o.dst v) w) : latG P md l.toArray Q (fuel + 1) listed a w := by
  unfold okLate at hok
  rw [ho] at hok
  simp only [Bool.and_eq_true] at hok
  obtain ⟨⟨⟨h1, h2⟩, h3⟩, h4⟩ := hok
  intro w' hw
  exact lat_step (fun w a => Late P l.toArray w o v a) (by simpa using ho) (Region.noSelect_spec h1) hQ (fun _ _ _ h k => h.on k) (fun _ _ _ h e1 e2 => h.same e1 e2) (fun w a h => .inl h.1)
    (fun w a K h hK => Late.run (by simpa using ho) h hK) fuel listed a w' (Region.free_spec (by simpa using ho) h2) (by simpa using h3) ⟨h4, fun wq hq => hy wq (hw.trans hq)⟩ fun w2 hw2 => h w2 (hw.trans hw2)
/-- operation i is the only one that may come up. -/
theorem lat_call {fuel : Nat} {listed : Array Bool} {a : Act} {w : World} (i : Nat) {o : Oper} (ho : l[i]? = some o) (hr : Region.ready md l.toArray listed = [i]) (hw : Region.wanted o (yielded l.toArray a.tmps) = true)
    (h : ∀ wq, Lat w wq → ∀ K : Act → World → Prop, Shut (∀ a w2, Lat wq w2 → latG P md l.toArray Q fuel (listed.setIfInBounds i true) a w2 → K a w2) → Oper.wp P o a wq K Q) : latG P md l.toArray Q (fuel + 1) listed a w := by
  intro w' hl
  refine ⟨fun h0 => (by rw [hr] at h0; cases h0), fun j hj => ?_⟩
  rw [hr] at hj
  obtain rfl : j = i := by simpa using hj
  have hi : l.toArray[j]? = some o := by simpa using ho
  unfold wpOp
  simp only [hi, hw, if_true]
  exact .inl (h w' hl _ fun a w2 h1 h2 => ⟨h1, h2⟩)
theorem lat_done {listed : Array Bool} {a : Act} {w : World} (hr : Region.ready md l.toArray listed = []) (h : ∀ w', Lat w w' → Q .normal a w') : ∀ fuel, latG P md l.toArray Q fuel listed a w
  | 0 => fun w' hw => ⟨hr, h w' hw⟩
  | _ + 1 => fun w' hw => ⟨fun _ => h w' hw, by rw [hr]; simp⟩
end
end Go.Proofs.YtecmhakapomepaaGreat

/- An element of an own row of structs is stored. -/
namespace Go.Proofs.YtecmhakapomepaaGreat
set_option linter.unusedVariables false
open Go.RowKit

section
variable {α : Type} {R : RK α} {w w' : World} {lo base g cap n size : Nat} {et : TypeId} {l : List α} {xs : List Value}
variable {P : Program} {o : Oper} {a : Act} {Q : Exit → Act → World → Prop} {KQ : Act → World → Prop}
end
end Go.Proofs.YtecmhakapomepaaGreat

/- Slices of rows of structs, cut. -/
namespace Go.Proofs.YtecmhakapomepaaGreat
set_option linter.unusedVariables false
open Go Go.RowKit

section
variable {α : Type} {R : RK α} {P : Program} {T : TypeId} {E : TypeId} {w : World} {S : Nat → Prop} {A : Option Addr} {n k : Nat} {l : List α}
theorem Seen.empty (w : World) (S : Nat → Prop) (A : Option Addr) : Seen R w S A 0 [] := ⟨rfl, by simp, fun h => absurd h (by omega)⟩
/-- x[k:]. -/
theorem row_drop (hT : P.underlying T = some (.slice (P.elem T))) (hz : ∀ w, (sizeOf (P.elem T)).run P w = .ok R.size w) (A : Option Addr) (n c k : Nat) (hk : k ≤ n) (hc : n ≤ c) :
    ∃ A', (∀ w, (Instr.slice T (.slice A n c) (some (.int .i64 (k : Int))) none none).run P w = .ok (.slice A' (n - k) (c - k)) w) ∧
      (∀ w S l, Seen R w S A n l → Seen R w S A' (n - k) (l.drop k)) := by
  refine ⟨if c = k then A else A.map (·.add (k * R.size)), fun w => ?_, fun w S l h => ?_⟩
  · rw [run_slice_l w T A n c hT .i64 k (by omega) (by omega), hz]
    simp [Result.andThen, sliced]
  · have hl := h.1
    by_cases e : c = k
    · rw [if_pos e, show n - k = 0 from by omega, List.drop_of_length_le (by omega)]
      exact Seen.empty w S A
    · rw [if_neg e]
      refine ⟨by rw [List.length_drop, hl], fun a ha => h.2.1 a (List.mem_of_mem_drop ha), fun h0 => ?_⟩
      obtain ⟨b, off, rfl, hb, hcell⟩ := h.2.2 (by omega)
      refine ⟨b, off + k * R.size, by simp [Go.WideShapes.add_plain], hb, fun j a hj i hi => ?_⟩
      rw [List.getElem?_drop] at hj
      have := hcell (k + j) a hj i hi
      rw [← this, show off + k * R.size + (j * R.size + i) = off + ((k + j) * R.size + i) by rw [Nat.add_mul]; omega]
/-- x[:k]. -/
theorem row_take (hT : P.underlying T = some (.slice (P.elem T))) (hz : ∀ w, (sizeOf (P.elem T)).run P w = .ok R.size w) (A : Option Addr) (n c k : Nat) (hk : k ≤ n) (hc : n ≤ c) :
    ∃ A', (∀ w, (Instr.slice T (.slice A n c) none (some (.int .i64 (k : Int))) none).run P w = .ok (.slice A' k c) w) ∧
      (∀ w S l, Seen R w S A n l → Seen R w S A' k (l.take k)) := by
  refine ⟨if c = 0 then A else A.map (·.add 0), fun w => ?_, fun w S l h => ?_⟩
  · rw [run_slice_h w T A n c hT .i64 k (by omega) (by omega), hz]
    simp [Result.andThen, sliced]
  · have hl := h.1
    by_cases e : c = 0
    · obtain rfl : k = 0 := by omega
      rw [List.take_zero]
      exact Seen.empty w S _
    · rw [if_neg e]
      refine ⟨by rw [List.length_take, hl]; omega, fun a ha => h.2.1 a (List.mem_of_mem_take ha), fun h0 => ?_⟩
      obtain ⟨b, off, rfl, hb, hcell⟩ := h.2.2 (by omega)
      refine ⟨b, off, by simp [Go.WideShapes.add_plain], hb, fun j a hj i hi => ?_⟩
      have hjk : j < k := by
        have := (List.getElem?_eq_some_iff.1 hj).1
        rw [List.length_take] at this
        omega
      rw [List.getElem?_take_of_lt hjk] at hj
      exact hcell j a hj i hi
end
end Go.Proofs.YtecmhakapomepaaGreat

/- The world may have changed in blocks of which X is so, and has grown. -/
namespace Go.Proofs.YtecmhakapomepaaGreat
set_option linter.unusedVariables false
open Go Go.RowKit

structure Chg (w w' : World) (X : Nat → Prop) : Prop where
  os : w'.os = w.os
  tape : w'.tape = w.tape
  output : w'.output = w.output
  size : w.heap.size ≤ w'.heap.size
  block : ∀ k, k < w.heap.size → ¬ X k → w'.heap[k]? = w.heap[k]?
section
variable {w w' w'' : World} {X Y : Nat → Prop}
theorem Chg.refl (w : World) (X : Nat → Prop) : Chg w w X := ⟨rfl, rfl, rfl, Nat.le_refl _, fun _ _ _ => rfl⟩
theorem Chg.trans (h : Chg w w' X) (k : Chg w' w'' Y) (hY : ∀ i, i < w.heap.size → Y i → X i) : Chg w w'' X :=
  ⟨k.os.trans h.os, k.tape.trans h.tape, k.output.trans h.output, Nat.le_trans h.size k.size, fun i hi hx => (k.block i (Nat.lt_of_lt_of_le hi h.size) fun hy => hx (hY i hi hy)).trans (h.block i hi hx)⟩
theorem Chg.of_grown {r : Nat} (h : w.grownBy w' (some r)) (hr : X r) : Chg w w' X :=
  ⟨h.os, h.tape, h.output, h.size, fun k hk hx => h.block k hk fun e => hx (by injection e with e; rw [e]; exact hr)⟩
theorem Chg.mono (h : Chg w w' X) (hXY : ∀ i, i < w.heap.size → X i → Y i) : Chg w w' Y := ⟨h.os, h.tape, h.output, h.size, fun k hk hy => h.block k hk fun hx => hy (hXY k hk hx)⟩
theorem Chg.blk {g : Nat} {T : TypeId} {cs : Array Value} (h : Chg w w' X) (hb : Blk w g T cs) (hg : ¬ X g) : Blk w' g T cs := by
  have := h.block g hb.lt hg
  unfold Blk at *
  rw [this]; exact hb
theorem Chg.ent {P : Program} {K : TypeId} {b : Nat} {l : List (Value × Value)} (h : Chg w w' X) (hb : Ent P K w b l) (hg : ¬ X b) : Ent P K w' b l := hb.keep (h.block b hb.lt hg)
theorem Chg.cell (h : Chg w w' X) {p : Addr} (hp : p.block < w.heap.size) (hx : ¬ X p.block) : w'.cell? p = w.cell? p := by
  unfold World.cell?
  rw [h.block p.block hp hx]
theorem Chg.seen {α : Type} {R : RK α} {S : Nat → Prop} {A : Option Addr} {n : Nat} {l : List α} (h : Chg w w' X) (hs : Seen R w S A n l) (hS : ∀ b, S b → b < w.heap.size ∧ ¬ X b) : Seen R w' S A n l :=
  hs.keep fun p hp => h.cell (hS _ hp).1 (hS _ hp).2
theorem Chg.own {base size n : Nat} {et : TypeId} {v : Value} {xs : List Value} (h : Chg w w' X) (ho : Own1 w base et size v n xs) (hv : ∀ k, v.ownBlock = some k → ¬ X k) : Own1 w' base et size v n xs := by
  obtain ⟨h1, h2 | ⟨g, cap, cur, e, hb, hh, hr⟩⟩ := ho
  · exact ⟨h1, .inl h2⟩
  · refine ⟨h1, .inr ⟨g, cap, cur, e, hb, ?_, hr⟩⟩
    rw [h.block g (Array.getElem?_eq_some_iff.1 hh).1 (hv g (by rw [e]; rfl))]
    exact hh
end
end Go.Proofs.YtecmhakapomepaaGreat

/- Drawn regions with many orders: what is so of each state (one case per state, not one per order). -/
namespace Go.Proofs.YtecmhakapomepaaGreat
set_option linter.unusedVariables false
open Go

theorem wpAnyH_inv {P : Program} {l : List Oper} {Q : Exit → Act → World → Prop} {md : Region.Mode} {S : World → Prop} (Inv : Nat → Array Bool → Act → World → Prop)
    (h0 : ∀ b a w, Inv 0 b a w → Region.ready md l.toArray b = [] ∧ Q .normal a w)
    (h1 : ∀ n b a w, Inv (n + 1) b a w → Region.ready md l.toArray b ≠ [] ∧ ∀ i ∈ Region.ready md l.toArray b, ∃ o, l[i]? = some o ∧ Region.wanted o (yielded l.toArray a.tmps) = true ∧ ∀ K : Act → World → Prop, Shut (∀ a w, S w → Inv n (b.setIfInBounds i true) a w → K a w) → o.wp P a w K Q) :
    ∀ n fuel b a w, n ≤ fuel → Inv n b a w → wpAnyH P md l.toArray Q S fuel b a w := by
  intro n
  induction n with
  | zero =>
    intro fuel b a w _ hI
    obtain ⟨hr, hq⟩ := h0 b a w hI
    cases fuel with
    | zero => exact ⟨hr, hq⟩
    | succ fuel => exact ⟨fun _ => hq, by rw [hr]; simp⟩
  | succ n ih =>
    intro fuel b a w hf hI
    obtain ⟨hne, hall⟩ := h1 n b a w hI
    cases fuel with
    | zero => omega
    | succ fuel =>
      refine ⟨fun e => absurd e hne, fun i hi => ?_⟩
      obtain ⟨o, ho, hw, hk⟩ := hall i hi
      have hi' : l.toArray[i]? = some o := by simpa using ho
      unfold wpOp
      simp only [hi', hw, if_true]
      exact .inl (hk _ fun a' w' hS hI' => ⟨hS, ih fuel _ _ _ (by omega) hI'⟩)
theorem ready_step {md : Region.Mode} {ops : Array Oper} {b : Array Bool} {rs : List Nat} {P : Nat → Prop} (hr : Region.ready md ops b = rs) (hne : rs ≠ []) (h : ∀ i ∈ rs, P i) : Region.ready md ops b ≠ [] ∧ ∀ i ∈ Region.ready md ops b, P i := by
  rw [hr]
  exact ⟨hne, h⟩
end Go.Proofs.YtecmhakapomepaaGreat
