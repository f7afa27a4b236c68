/- tunnel: the document's examples; TunnelLong. -/
import Derived.Test.YtnjbnnceeecekaaTunC
namespace Go.Proofs.Ytnjbnnceeecekaa
set_option linter.unusedVariables false
open Go.RowKit

theorem made_zero (k : Nat) : madeCells #[.int .u8 0] k = byCells (List.replicate k 0) := by
  apply Array.ext
  · simp [madeCells, byCells]
  · intro i h1 h2
    simp [madeCells, byCells, Nat.mod_one]
theorem depth_none {l : List UInt8} (h : unwE l ≠ 0) (n : Nat) : depthF n l = 0 := by
  cases n with
  | zero => rfl
  | succ n => unfold depthF; rw [if_neg h]
theorem wrapE_built {t i f g u p s d : Int} {o pl l : List UInt8} (b : Built t i f g u p s d o pl l) : wrapE l = if 8980 < lnK l then 10 else 0 := by
  unfold wrapE; rw [if_neg (by simpa using b.err)]
theorem lives6_depth : depthF 8 (wrapL (udpL 0 0 0 0 []) 1 2) = 1 := by
  have b := udp_built (s := 0) (d := 0) (sp := 0) (dp := 0) (pl := []) (by decide) (by simp) (by omega) (by omega) (by omega) (by omega)
  have hl := udpB_len 0 0 []
  have hln := b.ln
  rw [setAt_len _ _ _ (by rw [be_len, hl]; simp), hl] at hln
  have hb := lnK_lo (udpL 0 0 0 0 [])
  simp at hln
  have hw := wrap_unw b.err (by omega) 1 2 (by omega) (by omega) (by omega) (by omega) []
  rw [List.append_nil] at hw
  have hu : unwE ((udpL 0 0 0 0 []).take (lnK (udpL 0 0 0 0 [])).toNat) ≠ 0 := by
    have e : (udpL 0 0 0 0 []).take (lnK (udpL 0 0 0 0 [])).toNat = udpL 0 0 0 0 [] := List.take_of_length_le (by
      rw [(udp_len (s := 0) (d := 0) (sp := 0) (dp := 0) (pl := []) (by decide) (by simp)).1]; simp; omega)
    rw [e]
    unfold unwE
    rw [if_neg (by simpa using b.err), if_pos (by rw [b.p_]; decide)]
    decide
  show depthF (7 + 1) _ = 1
  unfold depthF
  rw [if_pos hw.1, hw.2, depth_none hu]
set_option maxHeartbeats 1000000 in
theorem lives6_any (w : World) : Calls Try.prog 19 #[] w fun e w' => e = .returned (.bool true) ∧ Below w.heap.size w w' := by
  have b := udp_built (s := 0) (d := 0) (sp := 0) (dp := 0) (pl := []) (by decide) (by simp) (by omega) (by omega) (by omega) (by omega)
  have hul := (udp_len (s := 0) (d := 0) (sp := 0) (dp := 0) (pl := []) (by decide) (by simp)).1
  have hl := udpB_len 0 0 []
  have hln := b.ln
  rw [setAt_len _ _ _ (by rw [be_len, hl]; simp), hl] at hln
  have hb := lnK_lo (udpL 0 0 0 0 [])
  simp at hln hul
  have hw := (wrap_built b.err (by omega) 1 2 (by omega) (by omega) (by omega) (by omega) []).1
  have he : wrapE (udpL 0 0 0 0 []) = 0 := by rw [wrapE_built b, if_neg (by omega)]
  rw [hln] at hw
  have hd := lives6_depth
  generalize hL : wrapL (udpL 0 0 0 0 []) 1 2 = WL at *
  generalize hU : udpL 0 0 0 0 [] = UL at *
  replace b := Lib.hid b
  clear hb hl
  replace hln := Lib.hid hln
  replace hw := Lib.hid hw
  replace he := Lib.hid he
  replace hd := Lib.hid hd
  replace hul := Lib.hid hul
  replace hL := Lib.hid hL
  replace hU := Lib.hid hU
  go_enter Try.func19, Try.ntmps19
  go_wp2_with fail
  refine (udp_any w 0 0 0 0 0 none 0 0 [] Byt.none_ (Nat.le_refl _) (by omega) (by omega) (by omega) (by omega) (by omega)).mono ?_
  rintro e w1 ⟨v1, rfl, own1, hB⟩
  rw [hU.out, hul.out] at own1
  obtain ⟨A1, c1, rfl, hc1, hcm1, by1, _⟩ := own1.any2
  go_wp2_with fail
  refine (wrap_any w1 A1 _ c1 UL by1 hc1 hcm1 (by omega) 1 2 (by omega) (by omega) (by omega) (by omega)).mono ?_
  rintro e w2 ⟨v2, rfl, own2, hb2⟩
  rw [he.out]
  rw [hL.out, hw.out] at own2
  obtain ⟨A2, c2, rfl, hc2, hcm2, by2, _⟩ := own2.any2
  replace hB := hB.trans (hb2.mono hB.size)
  clear own1 own2
  go_wp2_with fail
  refine (depth_any w2 A2 _ c2 WL by2 hc2 hcm2 (by omega)).mono ?_
  rintro e w3 ⟨rfl, hb3⟩
  rw [hd.out]
  replace hB := hB.trans (hb3.mono hB.size)
  go_wp2_with fail
  go_ret
  exact ⟨rfl, hB⟩
end Go.Proofs.Ytnjbnnceeecekaa
