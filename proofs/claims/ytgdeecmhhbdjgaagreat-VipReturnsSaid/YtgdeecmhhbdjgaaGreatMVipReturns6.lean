import Derived.Test.YtgdeecmhhbdjgaaGreatMVipReturns5
/- vip: VipReturns, the law. -/
namespace Go.Proofs.YtgdeecmhhbdjgaaGreat
set_option linter.unusedVariables false
open Go Go.RowKit Go.Maps

theorem returns33_law (as_ id own : Int) (pA : Option Addr) (pn pc : Nat) (P : List PeerV) (vA : Option Addr) (vn vc : Nat) (V : List VipV) (sA : Option Addr) (sn sc : Nat) (S : List SiteV) (rise fall every pat room idle queue dF dS dR dC dH ttl : Int) (lA : Option Addr) (ln lc : Nat) (ls : List ActW) (mo : Int) (w : World) (w1 : (Lit.int .i64 as_).wf = true) (w2 : (Lit.int .u32 id).wf = true) (w3 : (Lit.int .u32 own).wf = true) (hp1 : pn ≤ pc) (hp2 : pc ≤ maxLen) (hp3 : Seen peerK w (fun b => b < w.heap.size) pA pn P) (hv1 : vn ≤ vc) (hv2 : vc ≤ maxLen) (hv3 : Seen vipK w (fun b => b < w.heap.size) vA vn V) (hs1 : sn ≤ sc) (hs2 : sc ≤ maxLen) (hs3 : Seen siteK w (fun b => b < w.heap.size) sA sn S) (w_rise : (Lit.int .i64 rise).wf = true) (w_fall : (Lit.int .i64 fall).wf = true) (w_every : (Lit.int .i64 every).wf = true) (w_pat : (Lit.int .i64 pat).wf = true) (w_room : (Lit.int .i64 room).wf = true) (w_idle : (Lit.int .i64 idle).wf = true) (w_queue : (Lit.int .i64 queue).wf = true) (w_dF : (Lit.int .i64 dF).wf = true) (w_dS : (Lit.int .i64 dS).wf = true) (w_dR : (Lit.int .i64 dR).wf = true) (w_dC : (Lit.int .i64 dC).wf = true) (w_dH : (Lit.int .i64 dH).wf = true) (w_ttl : (Lit.int .i64 ttl).wf = true) (hl1 : ln ≤ lc) (hl2 : lc ≤ maxLen) (hl3 : Seen actWK w (fun b => b < w.heap.size) lA ln ls) (wm : (Lit.int .u8 mo).wf = true) :
    Calls Tryz.prog 6 #[.agg #[.int .i64 as_, .int .u32 id, .int .u32 own, .slice pA pn pc, .slice vA vn vc, .slice sA sn sc, .int .i64 rise, .int .i64 fall, .int .i64 every, .int .i64 pat, .int .i64 room, .int .i64 idle, .int .i64 queue, .int .i64 dF, .int .i64 dS, .int .i64 dR, .int .i64 dC, .int .i64 dH, .int .i64 ttl], .slice lA ln lc, .int .u8 mo] w fun e w' => e = .returned (.bool true) ∧ Below w.heap.size w w' := by
  obtain ⟨c, hc⟩ : ∃ c : CfgV, c = ⟨as_, id, own, pA, pn, pc, P, vA, vn, vc, V, sA, sn, sc, S, rise, fall, every, pat, room, idle, queue, dF, dS, dR, dC, dH, ttl⟩ := ⟨_, rfl⟩
  have e1 : (#[.int .i64 as_, .int .u32 id, .int .u32 own, .slice pA pn pc, .slice vA vn vc, .slice sA sn sc, .int .i64 rise, .int .i64 fall, .int .i64 every, .int .i64 pat, .int .i64 room, .int .i64 idle, .int .i64 queue, .int .i64 dF, .int .i64 dS, .int .i64 dR, .int .i64 dC, .int .i64 dH, .int .i64 ttl] : Array Value) = cfgC c := by rw [hc]; rfl
  rw [e1]
  have h : CfgIn w c := by
    rw [hc]
    exact ⟨isU_wf w2, isU_wf w3, ⟨isI_wf w1, isI_wf w_rise, isI_wf w_fall, isI_wf w_every, isI_wf w_pat, isI_wf w_room, isI_wf w_idle, isI_wf w_queue⟩, ⟨isI_wf w_dF, isI_wf w_dS, isI_wf w_dR, isI_wf w_dC, isI_wf w_dH, isI_wf w_ttl⟩, ⟨⟨hp1, hp2⟩, ⟨hv1, hv2⟩, ⟨hs1, hs2⟩⟩, hp3, hv3, hs3⟩
  have hm := bounds_u8 wm
  exact returns_core w c lA ln lc ls mo h hl3 hm.1 hm.2
end Go.Proofs.YtgdeecmhhbdjgaaGreat
