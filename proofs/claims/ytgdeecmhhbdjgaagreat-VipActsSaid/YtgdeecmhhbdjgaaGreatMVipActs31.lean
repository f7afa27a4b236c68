import Derived.Test.YtgdeecmhhbdjgaaGreatMVipActs30
/- config: plain: a configuration in the document's form. -/
namespace Go.Proofs.YtgdeecmhhbdjgaaGreat
set_option linter.unusedVariables false
open Go Go.RowKit Go.Maps

def vipT : RK VipV where
  size := 3
  cel := vipC
  ok _ _ _ := True
  pos := by omega
  len _ := rfl
  one _ u hu := by simp [vipC] at hu; rcases hu with rfl | rfl | rfl <;> rfl
  keep _ _ := trivial
  more _ _ := trivial
theorem vip_ofT {w : World} {S : Nat → Prop} {A : Option Addr} {n : Nat} {L : List VipV} (h : Seen vipT w S A n L) (hok : ∀ a ∈ L, vipK.ok w S a) : Seen vipK w S A n L := ⟨h.1, hok, h.2.2⟩
theorem peerE_ok : ElemOk Tryz.prog 36 133 peerK.size 56 (.agg #[.int .i64 0, .int .i64 0, .int .i64 0, .int .i64 0, .int .i64 0, .int .i64 0, .int .i64 0]) := ⟨Tryz.underlying36, by kernel_rfl, rfl, peerK.pos⟩
theorem vipE_ok : ElemOk Tryz.prog 37 134 vipT.size 40 (.agg #[.int .u32 0, .int .i64 0, .slice none 0 0]) := ⟨Tryz.underlying37, by kernel_rfl, rfl, vipT.pos⟩
theorem siteE_ok : ElemOk Tryz.prog 38 135 siteK.size 24 (.agg #[.int .i64 0, .int .u32 0, .int .i64 0]) := ⟨Tryz.underlying38, by kernel_rfl, rfl, siteK.pos⟩
def outC (c : CfgV) (v3 v4 v5 : Value) : Array Value := #[.int .i64 c.as_, .int .u32 c.id, .int .u32 c.own, v3, v4, v5, .int .i64 c.rise, .int .i64 c.fall, .int .i64 c.every, .int .i64 c.pat, .int .i64 c.room, .int .i64 c.idle, .int .i64 c.queue, .int .i64 c.dF, .int .i64 c.dS, .int .i64 c.dR, .int .i64 c.dC, .int .i64 c.dH, .int .i64 c.ttl]
def Again (c c' : CfgV) : Prop := ∃ A3 c3 A4 c4 A5 c5, c' = { c with pA := A3, pc := c3, vA := A4, vc := c4, sA := A5, sc := c5 }
end Go.Proofs.YtgdeecmhhbdjgaaGreat
