/- ip: seal, whole. -/
import Derived.Test.YtlkammmadchjnaaIpB
namespace Go.Proofs.Ytlkammmadchjnaa
set_option linter.unusedVariables false
open Go.RowKit

/-- the sum that a head of size bytes gets. -/
def sealV (l : List UInt8) (size : Nat) : Int := 65535 - csum ((set10 l 0).take size)
set_option maxHeartbeats 2000000 in
theorem seal_any (w : World) (base g n cap : Nat) (l : List UInt8) (size : Nat) (h : OwnB w base (.slice (some ⟨g, 0, none⟩) n cap) n l) (h12 : 12 ≤ n) (hs : size ≤ n) (hn : n ≤ 10000000) :
    Calls Try.prog 25 #[.slice (some ⟨g, 0, none⟩) n cap, .int .i64 (size : Int)] w fun e w' => e = .returned (.tuple #[]) ∧ OwnB w' base (.slice (some ⟨g, 0, none⟩) n cap) n (set10 l (sealV l size)) ∧ w.grownBy w' (some g) := by
  have hl := h.len
  have hgl : g < w.heap.size := (World.ownsRow.lt h g rfl).2
  have hb := Blk.new w 23 #[.slice (some ⟨g, 0, none⟩) n cap]
  have h0 := h.alloc (.cells #[.slice (some ⟨g, 0, none⟩) n cap] 23)
  have hg0 := grown_alloc (grown_refl w (some g)) (.cells #[.slice (some ⟨g, 0, none⟩) n cap] 23)
  obtain ⟨_, _, e0, hbg, _, hc0, hm0⟩ := h.form (by omega)
  injection e0 with e0 _ e1
  injection e0 with e0
  injection e0 with e0
  subst e0 e1
  have hsl := slice_hi g 0 n cap size (by omega)
  go_enter Try.func25, Try.ntmps25
  go_wp2_with fail
  refine (seal1_any _ base w.heap.size g n cap l 0 h0 h12 hn (hb.cellv 0 rfl) (by omega)).mono ?_
  rintro e w1 ⟨rfl, h1, hg1⟩
  have hb1 := hb.grown hg1 (by simp; omega)
  have c0 := hb1.cellv 0 (v := .slice (some ⟨g, 0, none⟩) n cap) rfl
  have hz : (0 : Int) % 18446744073709551616 = 0 := by decide
  rw [hz] at h1
  have hby := h1.byt.take (m := size) hs
  go_wp2_with fail
  refine (of_any _ size cap _ (by omega) w1 hby).mono ?_
  rintro e w2 ⟨rfl, hb2⟩
  have h2 := h1.below hb2
  have hb3 := hb1.below hb2 hb1.lt
  have v1 := csum_lo ((set10 l 0).take size)
  have v2 := csum_hi ((set10 l 0).take size)
  go_wp2_with fail
  refine (seal1_any w2 base w.heap.size g n cap _ _ h2 h12 hn (hb3.cellv 0 rfl) (by omega)).mono ?_
  rintro e w3 ⟨rfl, h3, hg3⟩
  go_wp2_with fail
  go_end0
  refine ⟨rfl, ?_, grown_trans (grown_trans (grown_trans hg0 hg1) (grown_of hb2 (Nat.le_refl _) _)) hg3⟩
  rw [set10_set10 _ _ _ (by omega), Int.emod_eq_of_lt (by omega) (by omega)] at h3
  exact h3
end Go.Proofs.Ytlkammmadchjnaa
