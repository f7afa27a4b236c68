import Derived.Test.YtecmhakapomepaaGreatMConfigForms28
import Derived.Test.YtecmhakapomepaaGreatMConfigForms31
import Derived.Laws.BytesArg
import Derived.Test.YtecmhakapomepaaGreatMConfigForms32
import Derived.Test.YtecmhakapomepaaGreatMConfigForms29
/- config: two rows of bytes alike; what a parse is told by. -/
namespace Go.Proofs.YtecmhakapomepaaGreat
set_option linter.unusedVariables false
open Go Go.RowKit

theorem strB_list (l : List UInt8) : (strB l).toList = l := by
  rw [Lib.toList_data]; simp [strB]
theorem bytesEq_any (A A' : Option Addr) (n c n' c' : Nat) (l l' : List UInt8) (B B' : Nat) (w : World) (h : Byt w B A n l) (h' : Byt w B' A' n' l') :
    Calls Tryz.prog 30 #[.slice A n c, .slice A' n' c'] w fun e w' => e = .returned (.bool (l == l')) ∧ w = w' := by
  have q1 := run_str w h c
  have q2 := run_str w h' c'
  have e : ((strB l).toList == (strB l').toList) = (l == l') := by rw [strB_list, strB_list]
  replace e := Lib.hid e
  go_enter Tryz.func30, Tryz.ntmps30
  go_wp2_with fail
  go_ret
  exact ⟨ret_bool e.out, rfl⟩
theorem goodP_yes {l : List UInt8} {c : CfgV} (h : c.w = rawP l) (h1 : endV (pS19 l) = 0) (h2 : outY c = l) : goodP l = true := by
  unfold goodP
  rw [outY_w h, h1, h2]
  simp
theorem goodP_no {l : List UInt8} {c : CfgV} (h : c.w = rawP l) (h2 : outY c ≠ l) : goodP l = false := by
  unfold goodP
  rw [outY_w h]
  simp [h2]
theorem goodP_end {l : List UInt8} (h1 : endV (pS19 l) ≠ 0) : goodP l = false := by
  unfold goodP
  simp [h1]
theorem cfgIn_mk {w : World} {as_ id own rise fall every pat room idle queue dF dS dR dC dH ttl : Int} {A0 A1 A2 : Option Addr} {n0 c0 n1 c1 n2 c2 : Nat} {L0 : List PeerV} {L1 : List VipV} {L2 : List SiteV} (hid : IsU id) (hown : IsU own) (h_as_ : IsI as_) (h_rise : IsI rise) (h_fall : IsI fall) (h_every : IsI every) (h_pat : IsI pat) (h_room : IsI room) (h_idle : IsI idle) (h_queue : IsI queue) (h_dF : IsI dF) (h_dS : IsI dS) (h_dR : IsI dR) (h_dC : IsI dC) (h_dH : IsI dH) (h_ttl : IsI ttl)
    (k0 : n0 ≤ c0) (m0 : c0 ≤ maxLen) (k1 : n1 ≤ c1) (m1 : c1 ≤ maxLen) (k2 : n2 ≤ c2) (m2 : c2 ≤ maxLen)
    (s0 : Seen peerK w (fun b => b < w.heap.size) A0 n0 L0) (s1 : Seen vipK w (fun b => b < w.heap.size) A1 n1 L1) (s2 : Seen siteK w (fun b => b < w.heap.size) A2 n2 L2) :
    CfgIn w ⟨as_, id, own, A0, n0, c0, L0, A1, n1, c1, L1, A2, n2, c2, L2, rise, fall, every, pat, room, idle, queue, dF, dS, dR, dC, dH, ttl⟩ :=
  ⟨hid, hown, ⟨h_as_, h_rise, h_fall, h_every, h_pat, h_room, h_idle, h_queue⟩, ⟨h_dF, h_dS, h_dR, h_dC, h_dH, h_ttl⟩, ⟨⟨k0, m0⟩, ⟨k1, m1⟩, ⟨k2, m2⟩⟩, s0, s1, s2⟩
theorem cfgC_mk {as_ id own rise fall every pat room idle queue dF dS dR dC dH ttl : Int} {A0 A1 A2 : Option Addr} {n0 c0 n1 c1 n2 c2 : Nat} {L0 : List PeerV} {L1 : List VipV} {L2 : List SiteV} :
    cfgC ⟨as_, id, own, A0, n0, c0, L0, A1, n1, c1, L1, A2, n2, c2, L2, rise, fall, every, pat, room, idle, queue, dF, dS, dR, dC, dH, ttl⟩ = #[.int .i64 as_, .int .u32 id, .int .u32 own, .slice A0 n0 c0, .slice A1 n1 c1, .slice A2 n2 c2, .int .i64 rise, .int .i64 fall, .int .i64 every, .int .i64 pat, .int .i64 room, .int .i64 idle, .int .i64 queue, .int .i64 dF, .int .i64 dS, .int .i64 dR, .int .i64 dC, .int .i64 dH, .int .i64 ttl] := rfl
/-- a block is written in which nothing of a configuration lies. -/
theorem seen_apart {α : Type} {R : RK α} {w w' : World} {A : Option Addr} {n k : Nat} {L : List α} (h : Seen R w (fun b => k < b ∧ b < w.heap.size) A n L) (hg : w.grownBy w' (some k)) : Seen R w' (fun b => b < w'.heap.size) A n L :=
  (h.grown hg fun b q => ⟨q.2, fun e => by injection e with e; omega⟩).more fun b q => Nat.lt_of_lt_of_le q.2 hg.size
theorem parsed_in (w : World) (l : List UInt8) (A0 A1 A2 : Option Addr) (n0 c0 n1 c1 n2 c2 : Nat) (L0 : List PeerV) (L1 : List VipV) (L2 : List SiteV)
    (e0 : L0 = (listP peerP (pS3 l)).1) (e1 : L1.map VipV.w = (listP vipP (pS4 l)).1) (e2 : L2 = (listP siteP (pS5 l)).1) (z0 : n0 = L0.length) (z1 : n1 = L1.length) (z2 : n2 = L2.length)
    (k0 : n0 ≤ c0) (m0 : c0 ≤ maxLen) (k1 : n1 ≤ c1) (m1 : c1 ≤ maxLen) (k2 : n2 ≤ c2) (m2 : c2 ≤ maxLen)
    (s0 : Seen peerK w (fun b => b < w.heap.size) A0 n0 L0) (s1 : Seen vipK w (fun b => b < w.heap.size) A1 n1 L1) (s2 : Seen siteK w (fun b => b < w.heap.size) A2 n2 L2) (c : CfgV)
    (hc : c = (⟨numV (pS0 l) 2, numV (pS1 l) 4, numV (pS2 l) 4, A0, n0, c0, L0, A1, n1, c1, L1, A2, n2, c2, L2, numV (pS6 l) 1, numV (pS7 l) 1, numV (pS8 l) 2, numV (pS9 l) 2, numV (pS10 l) 2, numV (pS11 l) 4, numV (pS12 l) 4, numV (pS13 l) 4, numV (pS14 l) 4, numV (pS15 l) 4, numV (pS16 l) 4, numV (pS17 l) 2, numV (pS18 l) 4⟩ : CfgV)) : CfgIn w c ∧ CfgSm c ∧ c.w = rawP l := by
  subst hc
  refine ⟨cfgIn_mk (numV_u (pS1 l) 4 (by decide)) (numV_u (pS2 l) 4 (by decide)) (numV_i (pS0 l) 2 (by decide)) (numV_i (pS6 l) 1 (by decide)) (numV_i (pS7 l) 1 (by decide)) (numV_i (pS8 l) 2 (by decide)) (numV_i (pS9 l) 2 (by decide)) (numV_i (pS10 l) 2 (by decide)) (numV_i (pS11 l) 4 (by decide)) (numV_i (pS12 l) 4 (by decide)) (numV_i (pS13 l) 4 (by decide)) (numV_i (pS14 l) 4 (by decide)) (numV_i (pS15 l) 4 (by decide)) (numV_i (pS16 l) 4 (by decide)) (numV_i (pS17 l) 2 (by decide)) (numV_i (pS18 l) 4 (by decide)) k0 m0 k1 m1 k2 m2 s0 s1 s2, ⟨?_, ?_, ?_, fun x hx => ?_⟩, ?_⟩
  · have := listP_le peerP (pS3 l)
    rw [← e0] at this
    show n0 ≤ 300
    omega
  · have := listP_le vipP (pS4 l)
    rw [← e1, List.length_map] at this
    show n1 ≤ 300
    omega
  · have := listP_le siteP (pS5 l)
    rw [← e2] at this
    show n2 ≤ 300
    omega
  · have h1 := listP_vips (pS4 l) x.w (by rw [← e1]; exact List.mem_map_of_mem hx)
    have h2 := (s1.2.1 x hx).2.2.2.2.1
    have h3 : x.w.L.length = x.L.length := rfl
    omega
  · unfold CfgV.w rawP
    rw [e0, e2, ← e1]
theorem parsed_yes {l : List UInt8} {c : CfgV} (h : c.w = rawP l) (h1 : endV (pS19 l) = 0) (h2 : outY c = l) : c.w = parseW l ∧ parseE l = 0 := by
  have hg := goodP_yes h h1 h2
  unfold parseW parseE
  rw [if_pos hg, if_pos hg]
  exact ⟨h, rfl⟩
theorem parsed_no {l : List UInt8} (hg : goodP l = false) : parseW l = zeroW ∧ parseE l = 4 := by
  unfold parseW parseE
  rw [hg]
  exact ⟨rfl, rfl⟩
def zeroC : CfgV := ⟨0, 0, 0, none, 0, 0, [], none, 0, 0, [], none, 0, 0, [], 0, 0, 0, 0, 0, 0, 0, 0, 0, 0, 0, 0, 0⟩
theorem zeroC_in (w : World) : CfgIn w zeroC := by
  have hi : IsI 0 := ⟨by omega, by omega⟩
  have hu : IsU 0 := ⟨by omega, by omega⟩
  exact ⟨hu, hu, ⟨hi, hi, hi, hi, hi, hi, hi, hi⟩, ⟨hi, hi, hi, hi, hi, hi⟩, ⟨⟨Nat.le_refl _, Nat.zero_le _⟩, ⟨Nat.le_refl _, Nat.zero_le _⟩, ⟨Nat.le_refl _, Nat.zero_le _⟩⟩, Seen.none_, Seen.none_, Seen.none_⟩
theorem zeroC_sm : CfgSm zeroC := ⟨by show 0 ≤ 300; omega, by show 0 ≤ 300; omega, by show 0 ≤ 300; omega, fun x hx => by cases hx⟩
end Go.Proofs.YtecmhakapomepaaGreat

/- config: what the document's Parse holds on its way. -/
namespace Go.Proofs.YtecmhakapomepaaGreat
set_option linter.unusedVariables false
open Go Go.RowKit

/-- the state of the document's Parse: its source, its result, the bytes. -/
structure DocR (w0 w : World) (B : Nat) (A : Option Addr) (n : Nat) (l : List UInt8) (lo gs : Nat) (st : St) : Prop where
  hs : Ref w lo gs st
  h2 : Blk w w0.heap.size 41 #[.int .i64 0, .int .u32 0, .int .u32 0, .slice none 0 0, .slice none 0 0, .slice none 0 0, .int .i64 0, .int .i64 0, .int .i64 0, .int .i64 0, .int .i64 0, .int .i64 0, .int .i64 0, .int .i64 0, .int .i64 0, .int .i64 0, .int .i64 0, .int .i64 0, .int .i64 0]
  h : Byt w B A n l
  hB : Below w0.heap.size w0 w
  ne : B ≤ w0.heap.size ∧ w0.heap.size < lo ∧ lo ≤ gs
theorem Ref.e_cell {w : World} {lo g : Nat} {s : St} (h : Ref w lo g s) : w.cell? ⟨g, 2, none⟩ = some (.int .i64 s.e) := by
  obtain ⟨A, n, c, N, L, _, _, hb, _⟩ := h
  exact hb.cellv 2 rfl
theorem Ref.grownX {w w' : World} {lo g k : Nat} {s : St} (h : Ref w lo g s) (hg : w.grownBy w' (some k)) (hk : g < k) : Ref w' lo g s := by
  obtain ⟨A, n, c, N, L, h1, h2, h3, h4, h5⟩ := h
  refine ⟨A, n, c, N, L, h1, h2, h3.grown hg (by simp; omega), h4.keep fun p hp => ?_, h5⟩
  unfold World.cell?
  rw [hg.block p.block (by have := h3.lt; omega) (by simp; omega)]
section
variable {w0 w w' : World} {B n lo gs : Nat} {A : Option Addr} {l : List UInt8} {st st' : St}
theorem bytR_grown {k : Nat} (h : Byt w B A n l) (hg : w.grownBy w' (some k)) (hB : B ≤ w.heap.size) (hk : B ≤ k) : Byt w' B A n l :=
  h.keep fun p hp => by
    unfold World.cell?
    rw [hg.block p.block (by omega) (by simp; omega)]
theorem DocR.lt (D : DocR w0 w B A n l lo gs st) : gs < w.heap.size := D.hs.lt
theorem DocR.src (D : DocR w0 w B A n l lo gs st) (hs : Ref w' lo gs st') (hg : w.grownBy w' (some gs)) : DocR w0 w' B A n l lo gs st' := by
  have h1 := D.ne
  have h2 := D.hB.size
  exact ⟨hs, D.h2.grown hg (by simp; omega), bytR_grown D.h hg (by omega) (by omega), below_own D.hB hg D.hB.size (by omega), h1⟩
theorem DocR.up {k : Nat} (D : DocR w0 w B A n l lo gs st) (hg : w.grownBy w' (some k)) (hk : gs < k) : DocR w0 w' B A n l lo gs st := by
  have h1 := D.ne
  have h2 := D.hB.size
  exact ⟨D.hs.grownX hg hk, D.h2.grown hg (by simp; omega), bytR_grown D.h hg (by omega) (by omega), below_own D.hB hg D.hB.size (by omega), h1⟩
theorem DocR.belowB {X : Nat} (D : DocR w0 w B A n l lo gs st) (hb : Below X w w') (hX : gs < X) : DocR w0 w' B A n l lo gs st := by
  have h1 := D.ne
  exact ⟨D.hs.below hb hX, D.h2.below hb (by omega), D.h.keep fun p hp => hb.cell (by omega), D.hB.trans (hb.mono (by omega)), h1⟩
theorem DocR.below (D : DocR w0 w B A n l lo gs st) (hb : Below w.heap.size w w') : DocR w0 w' B A n l lo gs st := D.belowB hb D.lt
end
theorem refU8P (w : World) (lo g : Nat) (s : St) (h : Ref w lo g s) : Calls Tryz.prog 34 #[.pointer (some ⟨g, 0, none⟩)] w fun e w' => e = .returned (.int .i64 (numV s 1)) ∧ Ref w' lo g (nx s 1) ∧ w.grownBy w' (some g) := refU8_any w lo g s h
theorem refU16P (w : World) (lo g : Nat) (s : St) (h : Ref w lo g s) : Calls Tryz.prog 32 #[.pointer (some ⟨g, 0, none⟩)] w fun e w' => e = .returned (.int .i64 (numV s 2)) ∧ Ref w' lo g (nx s 2) ∧ w.grownBy w' (some g) := refU16_any w lo g s h
theorem refU32P (w : World) (lo g : Nat) (s : St) (h : Ref w lo g s) : Calls Tryz.prog 33 #[.pointer (some ⟨g, 0, none⟩)] w fun e w' => e = .returned (.int .u32 (numV s 4)) ∧ Ref w' lo g (nx s 4) ∧ w.grownBy w' (some g) := refU32_any w lo g s h
/-- rows whose elements lead nowhere. -/
theorem rows_keptF {α : Type} {R : RK α} {w w' : World} {lo base : Nat} {et : TypeId} {v : Value} {l : List α} {row : Option Nat} (hf : ∀ (w w' : World) (S S' : Nat → Prop) a, R.ok w S a → R.ok w' S' a) (h : Rows R w lo base et v l) (hg : w.grownBy w' row) (hne : v.ownBlock = none ∨ v.ownBlock ≠ row) : Rows R w' lo base et v l :=
  ⟨h.1.kept hg hne, fun a ha => hf _ _ _ _ a (h.2 a ha)⟩
theorem peerF (w w' : World) (S S' : Nat → Prop) (a : PeerV) (h : peerK.ok w S a) : peerK.ok w' S' a := h
theorem siteF (w w' : World) (S S' : Nat → Prop) (a : SiteV) (h : siteK.ok w S a) : siteK.ok w' S' a := h
theorem bndF (w w' : World) (S S' : Nat → Prop) (a : BndV) (h : bndK.ok w S a) : bndK.ok w' S' a := h
theorem vipF (w w' : World) (S S' : Nat → Prop) (a : VipV) (h : vipT.ok w S a) : vipT.ok w' S' a := h
/-- a block that came behind a row is not the row's own. -/
theorem rows_ne {α : Type} {R : RK α} {w : World} {lo base k : Nat} {et : TypeId} {v : Value} {l : List α} (h : Rows R w lo base et v l) (hk : w.heap.size ≤ k) : v.ownBlock ≠ some k := fun e => by have := (h.own k e).2; omega
/-- vips whose rows lie in blocks from B on, below m, apart from v's own. -/
def OkV (w : World) (B m : Nat) (v : Value) (L : List VipV) : Prop := ∀ x ∈ L, vipK.ok w (fun b => B ≤ b ∧ b < m ∧ v.ownBlock ≠ some b) x
theorem OkV.grown {w w' : World} {B m k : Nat} {v : Value} {L : List VipV} (h : OkV w B m v L) (hg : w.grownBy w' (some k)) (hk : k < B ∨ m ≤ k) (hm : m ≤ w.heap.size) : OkV w' B m v L := fun x hx =>
  vipK.keep (h x hx) fun p hp => by
    unfold World.cell?
    rw [hg.block p.block (by have := hp.2.1; omega) (by have := hp.1; have := hp.2.1; simp; omega)]
theorem OkV.below {w w' : World} {B m X : Nat} {v : Value} {L : List VipV} (h : OkV w B m v L) (hb : Below X w w') (hm : m ≤ X) : OkV w' B m v L := fun x hx =>
  vipK.keep (h x hx) fun p hp => hb.cell (by have := hp.2.1; omega)
theorem own_apart {v v2 : Value} {m B : Nat} (h1 : ∀ q, v.ownBlock = some q → q < m) (h2 : ∀ q, v2.ownBlock = some q → B ≤ q) (hm : m ≤ B) : v.ownBlock = none ∨ v.ownBlock ≠ v2.ownBlock := by
  cases h : v.ownBlock with
  | none => exact .inl rfl
  | some q => exact .inr fun e => by have := h1 q h; have := h2 q e.symm; omega
theorem vipEK_ok : ElemOk Tryz.prog 37 81 vipK.size 40 (.agg #[.int .u32 0, .int .i64 0, .slice none 0 0]) := ⟨Tryz.underlying37, by kernel_rfl, rfl, vipK.pos⟩
/-- a struct's literal with one field. -/
theorem wpList_build1 {P : Program} {w : World} {cs : Array Value} {ops : Array Oper} {rest : List Oper} {op : Oper} {a : Act} {Q : Exit → Act → World → Prop} (hgd : op.guard = none) (ty : TypeId) (i : Nat) (x : Operand) (v : Value) (ho : op.op = .build ty #[(i, x)]) (hx : a.eval x = v)
    (hz : ∀ w, (Instr.build ty #[(i, v)]).run P w = .ok (.agg cs) w) (hk : wpList P ops Q rest (a.put op.dst (.agg cs)) w) : wpList P ops Q (op :: rest) a w := by
  refine wpList_plain hgd fun K hK => ?_
  unfold Oper.wp execOp
  simp only [ho, Sem.run_bind, Sem.run_pure, Result.andThen_ok, List.map_toArray, List.map_cons, List.map_nil, hx, hz]
  exact hK _ _ hk
end Go.Proofs.YtecmhakapomepaaGreat
