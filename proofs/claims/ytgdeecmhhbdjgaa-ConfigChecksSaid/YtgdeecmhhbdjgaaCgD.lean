/- config: a peer, its policy and its speaker; the document's. -/
import Derived.Test.YtgdeecmhhbdjgaaCgC
namespace Go.Proofs.Ytgdeecmhhbdjgaa
set_option linter.unusedVariables false
open Go Go.RowKit Go.Maps

def peerA (p : PeerV) : Array Value := #[.int .i64 p.as_, .int .i64 p.hold, .int .i64 p.retry, .int .i64 p.gap, .int .i64 p.med, .int .i64 p.prep, .int .i64 p.back]
def peerZ : PeerV := ⟨0, 0, 0, 0, 0, 0, 0⟩
/-- the policy, and the speaker's configuration, of a peer. -/
def polA (c : CfgV) (p : PeerV) : Array Value := #[.int .i64 c.as_, .int .u32 c.own, .int .i64 p.med, .int .i64 p.prep, .int .i64 p.back]
def spkA (c : CfgV) (p : PeerV) : Array Value := #[.int .i64 c.as_, .int .i64 p.as_, .int .u32 c.id, .int .i64 p.hold, .int .i64 p.retry, .int .i64 c.queue, .int .i64 p.gap]
def polZ : Array Value := #[.int .i64 0, .int .u32 0, .int .i64 0, .int .i64 0, .int .i64 0]
def spkZ : Array Value := #[.int .i64 0, .int .i64 0, .int .u32 0, .int .i64 0, .int .i64 0, .int .i64 0, .int .i64 0]
set_option maxRecDepth 100000 in
set_option maxHeartbeats 4000000 in
theorem peer_yes (w : World) (c : CfgV) (k : Nat) (p : PeerV) (h : CfgIn w c) (hp : c.P[k]? = some p) : Calls Try.prog 36 #[.agg (cfgC c), .int .i64 (k : Int)] w fun e w' => e = .returned (.tuple #[.agg (peerA p), .bool true]) ∧ Below w.heap.size w w' := by
  have hkn : k < c.pn := by have := (List.getElem?_eq_some_iff.1 hp).1; have := h.peers.1; omega
  have hp9 := Lib.hid hp
  have hB := ((Below.refl w.heap.size w).alloc (Nat.le_refl _) (.cells (cfgC c) 29)).alloc (by simp) (.cells #[.int .i64 0, .int .i64 0, .int .i64 0, .int .i64 0, .int .i64 0, .int .i64 0, .int .i64 0] 71)
  have hq := (Blk.new w 29 (cfgC c)).alloc (.cells #[.int .i64 0, .int .i64 0, .int .i64 0, .int .i64 0, .int .i64 0, .int .i64 0, .int .i64 0] 71)
  have hz := Blk.new (w.alloc (.cells (cfgC c) 29)) 71 #[.int .i64 0, .int .i64 0, .int .i64 0, .int .i64 0, .int .i64 0, .int .i64 0, .int .i64 0]
  rw [World.size_alloc] at hz
  have hC := h.nx hB
  have hi : (Try.prog.info? 71).map (·.size) = some (#[.int .i64 0, .int .i64 0, .int .i64 0, .int .i64 0, .int .i64 0, .int .i64 0, .int .i64 0] : Array Value).size := by kernel_rfl
  go_enter Try.func36, Try.ntmps36
  go_upto_region 1 with (fail)
  generalize (w.alloc (.cells (cfgC c) 29)).alloc (.cells #[.int .i64 0, .int .i64 0, .int .i64 0, .int .i64 0, .int .i64 0, .int .i64 0, .int .i64 0] 71) = w1 at *
  have q3 : w1.cell? ⟨w.heap.size, 3, none⟩ = some (.slice c.pA c.pn c.pc) := hq.cellv 3 rfl
  have ql := hq.lt
  have zl := hz.lt
  obtain ⟨b, off, p', e1, hb, hp', hok, r0, r1, r2, r3, r4, r5, r6⟩ := peer_cells hC.peers hkn
  rw [hp9.out] at hp'
  injection hp' with hp'
  subst hp'
  rw [e1] at q3
  have k1 : (k : Int) < c.pn := by omega
  have k0 : (0 : Int) ≤ k := by omega
  have k2 : decide ((k : Int) < 0) = false := by simp
  have k3 : decide ((c.pn : Int) ≤ k) = false := by simp; omega
  clear hp
  go_wp2_with (refine wpList_store_blk rfl hz 71 (.tmp 4) (.tmp 20) rfl rfl rfl rfl hi (by simp [Value.oneCell']) ?_; intro w9 hz9 hg9)
  exact bodyPost_ret (results_ct rfl _ rfl (load_blk hz9 Try.underlying71 rfl hi)) rfl ⟨rfl, below_own hB hg9 hB.size (by omega)⟩
set_option maxRecDepth 100000 in
set_option maxHeartbeats 4000000 in
theorem peer_no (w : World) (c : CfgV) (k : Int) (h : CfgIn w c) (hk : k < 0 ∨ (c.pn : Int) ≤ k) : Calls Try.prog 36 #[.agg (cfgC c), .int .i64 k] w fun e w' => e = .returned (.tuple #[.agg (peerA peerZ), .bool false]) ∧ Below w.heap.size w w' := by
  have hB := ((Below.refl w.heap.size w).alloc (Nat.le_refl _) (.cells (cfgC c) 29)).alloc (by simp) (.cells #[.int .i64 0, .int .i64 0, .int .i64 0, .int .i64 0, .int .i64 0, .int .i64 0, .int .i64 0] 71)
  have hq := (Blk.new w 29 (cfgC c)).alloc (.cells #[.int .i64 0, .int .i64 0, .int .i64 0, .int .i64 0, .int .i64 0, .int .i64 0, .int .i64 0] 71)
  have hz := Blk.new (w.alloc (.cells (cfgC c) 29)) 71 #[.int .i64 0, .int .i64 0, .int .i64 0, .int .i64 0, .int .i64 0, .int .i64 0, .int .i64 0]
  rw [World.size_alloc] at hz
  have hC := h.nx hB
  have hi : (Try.prog.info? 71).map (·.size) = some (#[.int .i64 0, .int .i64 0, .int .i64 0, .int .i64 0, .int .i64 0, .int .i64 0, .int .i64 0] : Array Value).size := by kernel_rfl
  go_enter Try.func36, Try.ntmps36
  go_upto_region 1 with (fail)
  generalize (w.alloc (.cells (cfgC c) 29)).alloc (.cells #[.int .i64 0, .int .i64 0, .int .i64 0, .int .i64 0, .int .i64 0, .int .i64 0, .int .i64 0] 71) = w1 at *
  have q3 : w1.cell? ⟨w.heap.size, 3, none⟩ = some (.slice c.pA c.pn c.pc) := hq.cellv 3 rfl
  have ql := hq.lt
  have zl := hz.lt
  by_cases k0 : k < 0
  · have k2 : decide (k < 0) = true := by simpa using k0
    go_wp2_with (refine wpList_store_blk rfl hz 71 (.tmp 4) (.tmp 15) rfl rfl rfl rfl hi (by simp [Value.oneCell']) ?_; intro w9 hz9 hg9)
    exact bodyPost_ret (results_ct rfl _ rfl (load_blk hz9 Try.underlying71 rfl hi)) rfl ⟨rfl, below_own hB hg9 hB.size (by omega)⟩
  · have k2 : decide (k < 0) = false := by simpa using k0
    have k3 : decide ((c.pn : Int) ≤ k) = true := by simp; omega
    go_wp2_with (refine wpList_store_blk rfl hz 71 (.tmp 4) (.tmp 15) rfl rfl rfl rfl hi (by simp [Value.oneCell']) ?_; intro w9 hz9 hg9)
    exact bodyPost_ret (results_ct rfl _ rfl (load_blk hz9 Try.underlying71 rfl hi)) rfl ⟨rfl, below_own hB hg9 hB.size (by omega)⟩
set_option maxRecDepth 100000 in
set_option maxHeartbeats 4000000 in
theorem refPolicy_no (w : World) (c : CfgV) (k : Int) (h : CfgIn w c) (hk : k < 0 ∨ (c.pn : Int) ≤ k) : Calls Try.prog 11 #[.agg (cfgC c), .int .i64 k] w fun e w' => e = .returned (.agg polZ) ∧ Below w.heap.size w w' := by
  have hB := ((Below.refl w.heap.size w).alloc (Nat.le_refl _) (.cells (cfgC c) 37)).alloc (by simp) (.cells #[.int .i64 0, .int .u32 0, .int .i64 0, .int .i64 0, .int .i64 0] 53)
  have hq := (Blk.new w 37 (cfgC c)).alloc (.cells #[.int .i64 0, .int .u32 0, .int .i64 0, .int .i64 0, .int .i64 0] 53)
  have hz := Blk.new (w.alloc (.cells (cfgC c) 37)) 53 #[.int .i64 0, .int .u32 0, .int .i64 0, .int .i64 0, .int .i64 0]
  rw [World.size_alloc] at hz
  have hC := h.nx hB
  have hi : (Try.prog.info? 53).map (·.size) = some (#[.int .i64 0, .int .u32 0, .int .i64 0, .int .i64 0, .int .i64 0] : Array Value).size := by kernel_rfl
  go_enter Try.func11, Try.ntmps11
  go_upto_region 1 with (fail)
  generalize (w.alloc (.cells (cfgC c) 37)).alloc (.cells #[.int .i64 0, .int .u32 0, .int .i64 0, .int .i64 0, .int .i64 0] 53) = w1 at *
  have q3 : w1.cell? ⟨w.heap.size, 3, none⟩ = some (.slice c.pA c.pn c.pc) := hq.cellv 3 rfl
  have ql := hq.lt
  have zl := hz.lt
  by_cases k0 : k < 0
  · have k2 : decide (k < 0) = true := by simpa using k0
    go_wp2_with (refine wpList_store_blk rfl hz 53 (.tmp 4) (.tmp 15) rfl rfl rfl rfl hi (by simp [Value.oneCell']) ?_; intro w9 hz9 hg9)
    exact bodyPost_ret (results_c rfl _ rfl (load_blk hz9 Try.underlying53 rfl hi)) rfl ⟨rfl, below_own hB hg9 hB.size (by omega)⟩
  · have k2 : decide (k < 0) = false := by simpa using k0
    have k3 : decide ((c.pn : Int) ≤ k) = true := by simp; omega
    go_wp2_with (refine wpList_store_blk rfl hz 53 (.tmp 4) (.tmp 15) rfl rfl rfl rfl hi (by simp [Value.oneCell']) ?_; intro w9 hz9 hg9)
    exact bodyPost_ret (results_c rfl _ rfl (load_blk hz9 Try.underlying53 rfl hi)) rfl ⟨rfl, below_own hB hg9 hB.size (by omega)⟩
set_option maxRecDepth 100000 in
set_option maxHeartbeats 4000000 in
theorem refSpeaker_no (w : World) (c : CfgV) (k : Int) (h : CfgIn w c) (hk : k < 0 ∨ (c.pn : Int) ≤ k) : Calls Try.prog 12 #[.agg (cfgC c), .int .i64 k] w fun e w' => e = .returned (.agg spkZ) ∧ Below w.heap.size w w' := by
  have hB := ((Below.refl w.heap.size w).alloc (Nat.le_refl _) (.cells (cfgC c) 37)).alloc (by simp) (.cells #[.int .i64 0, .int .i64 0, .int .u32 0, .int .i64 0, .int .i64 0, .int .i64 0, .int .i64 0] 51)
  have hq := (Blk.new w 37 (cfgC c)).alloc (.cells #[.int .i64 0, .int .i64 0, .int .u32 0, .int .i64 0, .int .i64 0, .int .i64 0, .int .i64 0] 51)
  have hz := Blk.new (w.alloc (.cells (cfgC c) 37)) 51 #[.int .i64 0, .int .i64 0, .int .u32 0, .int .i64 0, .int .i64 0, .int .i64 0, .int .i64 0]
  rw [World.size_alloc] at hz
  have hC := h.nx hB
  have hi : (Try.prog.info? 51).map (·.size) = some (#[.int .i64 0, .int .i64 0, .int .u32 0, .int .i64 0, .int .i64 0, .int .i64 0, .int .i64 0] : Array Value).size := by kernel_rfl
  go_enter Try.func12, Try.ntmps12
  go_upto_region 1 with (fail)
  generalize (w.alloc (.cells (cfgC c) 37)).alloc (.cells #[.int .i64 0, .int .i64 0, .int .u32 0, .int .i64 0, .int .i64 0, .int .i64 0, .int .i64 0] 51) = w1 at *
  have q3 : w1.cell? ⟨w.heap.size, 3, none⟩ = some (.slice c.pA c.pn c.pc) := hq.cellv 3 rfl
  have ql := hq.lt
  have zl := hz.lt
  by_cases k0 : k < 0
  · have k2 : decide (k < 0) = true := by simpa using k0
    go_wp2_with (refine wpList_store_blk rfl hz 51 (.tmp 4) (.tmp 15) rfl rfl rfl rfl hi (by simp [Value.oneCell']) ?_; intro w9 hz9 hg9)
    exact bodyPost_ret (results_c rfl _ rfl (load_blk hz9 Try.underlying51 rfl hi)) rfl ⟨rfl, below_own hB hg9 hB.size (by omega)⟩
  · have k2 : decide (k < 0) = false := by simpa using k0
    have k3 : decide ((c.pn : Int) ≤ k) = true := by simp; omega
    go_wp2_with (refine wpList_store_blk rfl hz 51 (.tmp 4) (.tmp 15) rfl rfl rfl rfl hi (by simp [Value.oneCell']) ?_; intro w9 hz9 hg9)
    exact bodyPost_ret (results_c rfl _ rfl (load_blk hz9 Try.underlying51 rfl hi)) rfl ⟨rfl, below_own hB hg9 hB.size (by omega)⟩
set_option maxRecDepth 100000 in
set_option maxHeartbeats 4000000 in
theorem refPolicy_yes (w : World) (c : CfgV) (k : Nat) (p : PeerV) (h : CfgIn w c) (hp : c.P[k]? = some p) : Calls Try.prog 11 #[.agg (cfgC c), .int .i64 (k : Int)] w fun e w' => e = .returned (.agg (polA c p)) ∧ Below w.heap.size w w' := by
  have hkn : k < c.pn := by have := (List.getElem?_eq_some_iff.1 hp).1; have := h.peers.1; omega
  have hp9 := Lib.hid hp
  have hB := ((Below.refl w.heap.size w).alloc (Nat.le_refl _) (.cells (cfgC c) 37)).alloc (by simp) (.cells #[.int .i64 0, .int .u32 0, .int .i64 0, .int .i64 0, .int .i64 0] 53)
  have hq := (Blk.new w 37 (cfgC c)).alloc (.cells #[.int .i64 0, .int .u32 0, .int .i64 0, .int .i64 0, .int .i64 0] 53)
  have hz := Blk.new (w.alloc (.cells (cfgC c) 37)) 53 #[.int .i64 0, .int .u32 0, .int .i64 0, .int .i64 0, .int .i64 0]
  rw [World.size_alloc] at hz
  have hC := h.nx hB
  have hi : (Try.prog.info? 53).map (·.size) = some (#[.int .i64 0, .int .u32 0, .int .i64 0, .int .i64 0, .int .i64 0] : Array Value).size := by kernel_rfl
  go_enter Try.func11, Try.ntmps11
  go_upto_region 1 with (fail)
  generalize (w.alloc (.cells (cfgC c) 37)).alloc (.cells #[.int .i64 0, .int .u32 0, .int .i64 0, .int .i64 0, .int .i64 0] 53) = w1 at *
  have q0 : w1.cell? ⟨w.heap.size, 0, none⟩ = some (.int .i64 c.as_) := hq.cellv 0 rfl
  have q2 : w1.cell? ⟨w.heap.size, 2, none⟩ = some (.int .u32 c.own) := hq.cellv 2 rfl
  have q3 : w1.cell? ⟨w.heap.size, 3, none⟩ = some (.slice c.pA c.pn c.pc) := hq.cellv 3 rfl
  have ql := hq.lt
  have zl := hz.lt
  obtain ⟨b, off, p', e1, hb, hp', hok, r0, r1, r2, r3, r4, r5, r6⟩ := peer_cells hC.peers hkn
  rw [hp9.out] at hp'
  injection hp' with hp'
  subst hp'
  rw [e1] at q3
  have k1 : (k : Int) < c.pn := by omega
  have k0 : (0 : Int) ≤ k := by omega
  have k2 : decide ((k : Int) < 0) = false := by simp
  have k3 : decide ((c.pn : Int) ≤ k) = false := by simp; omega
  clear hp
  have hbx := (Below.refl w1.heap.size w1).alloc (Nat.le_refl _) (.cells #[.int .i64 p.as_, .int .i64 p.hold, .int .i64 p.retry, .int .i64 p.gap, .int .i64 p.med, .int .i64 p.prep, .int .i64 p.back] 72)
  have hq5 := Blk.new w1 72 #[.int .i64 p.as_, .int .i64 p.hold, .int .i64 p.retry, .int .i64 p.gap, .int .i64 p.med, .int .i64 p.prep, .int .i64 p.back]
  go_upto_region 4 with (fail)
  generalize w1.alloc (.cells #[.int .i64 p.as_, .int .i64 p.hold, .int .i64 p.retry, .int .i64 p.gap, .int .i64 p.med, .int .i64 p.prep, .int .i64 p.back] 72) = w2 at *
  replace hq := hq.below hbx ql
  replace hz := hz.below hbx zl
  replace hB := hB.trans (hbx.mono hB.size)
  clear q0 q2 q3 r0 r1 r2 r3 r4 r5 r6 ql zl hbx
  have q0 : w2.cell? ⟨w.heap.size, 0, none⟩ = some (.int .i64 c.as_) := hq.cellv 0 rfl
  have q2 : w2.cell? ⟨w.heap.size, 2, none⟩ = some (.int .u32 c.own) := hq.cellv 2 rfl
  have ql := hq.lt
  have zl := hz.lt
  have p0 : w2.cell? ⟨w1.heap.size, 0, none⟩ = some (.int .i64 p.as_) := hq5.cellv 0 rfl
  have p1 : w2.cell? ⟨w1.heap.size, 1, none⟩ = some (.int .i64 p.hold) := hq5.cellv 1 rfl
  have p2 : w2.cell? ⟨w1.heap.size, 2, none⟩ = some (.int .i64 p.retry) := hq5.cellv 2 rfl
  have p3 : w2.cell? ⟨w1.heap.size, 3, none⟩ = some (.int .i64 p.gap) := hq5.cellv 3 rfl
  have p4 : w2.cell? ⟨w1.heap.size, 4, none⟩ = some (.int .i64 p.med) := hq5.cellv 4 rfl
  have p5 : w2.cell? ⟨w1.heap.size, 5, none⟩ = some (.int .i64 p.prep) := hq5.cellv 5 rfl
  have p6 : w2.cell? ⟨w1.heap.size, 6, none⟩ = some (.int .i64 p.back) := hq5.cellv 6 rfl
  have pl := hq5.lt
  go_wp2_with (refine wpList_store_blk rfl hz 53 (.tmp 4) (.tmp 31) rfl rfl rfl rfl hi (by simp [Value.oneCell']) ?_; intro w9 hz9 hg9)
  exact bodyPost_ret (results_c rfl _ rfl (load_blk hz9 Try.underlying53 rfl hi)) rfl ⟨rfl, below_own hB hg9 hB.size (by omega)⟩
set_option maxRecDepth 100000 in
set_option maxHeartbeats 4000000 in
theorem refSpeaker_yes (w : World) (c : CfgV) (k : Nat) (p : PeerV) (h : CfgIn w c) (hp : c.P[k]? = some p) : Calls Try.prog 12 #[.agg (cfgC c), .int .i64 (k : Int)] w fun e w' => e = .returned (.agg (spkA c p)) ∧ Below w.heap.size w w' := by
  have hkn : k < c.pn := by have := (List.getElem?_eq_some_iff.1 hp).1; have := h.peers.1; omega
  have hp9 := Lib.hid hp
  have hB := ((Below.refl w.heap.size w).alloc (Nat.le_refl _) (.cells (cfgC c) 37)).alloc (by simp) (.cells #[.int .i64 0, .int .i64 0, .int .u32 0, .int .i64 0, .int .i64 0, .int .i64 0, .int .i64 0] 51)
  have hq := (Blk.new w 37 (cfgC c)).alloc (.cells #[.int .i64 0, .int .i64 0, .int .u32 0, .int .i64 0, .int .i64 0, .int .i64 0, .int .i64 0] 51)
  have hz := Blk.new (w.alloc (.cells (cfgC c) 37)) 51 #[.int .i64 0, .int .i64 0, .int .u32 0, .int .i64 0, .int .i64 0, .int .i64 0, .int .i64 0]
  rw [World.size_alloc] at hz
  have hC := h.nx hB
  have hi : (Try.prog.info? 51).map (·.size) = some (#[.int .i64 0, .int .i64 0, .int .u32 0, .int .i64 0, .int .i64 0, .int .i64 0, .int .i64 0] : Array Value).size := by kernel_rfl
  go_enter Try.func12, Try.ntmps12
  go_upto_region 1 with (fail)
  generalize (w.alloc (.cells (cfgC c) 37)).alloc (.cells #[.int .i64 0, .int .i64 0, .int .u32 0, .int .i64 0, .int .i64 0, .int .i64 0, .int .i64 0] 51) = w1 at *
  have q0 : w1.cell? ⟨w.heap.size, 0, none⟩ = some (.int .i64 c.as_) := hq.cellv 0 rfl
  have q1 : w1.cell? ⟨w.heap.size, 1, none⟩ = some (.int .u32 c.id) := hq.cellv 1 rfl
  have q3 : w1.cell? ⟨w.heap.size, 3, none⟩ = some (.slice c.pA c.pn c.pc) := hq.cellv 3 rfl
  have q12 : w1.cell? ⟨w.heap.size, 12, none⟩ = some (.int .i64 c.queue) := hq.cellv 12 rfl
  have ql := hq.lt
  have zl := hz.lt
  obtain ⟨b, off, p', e1, hb, hp', hok, r0, r1, r2, r3, r4, r5, r6⟩ := peer_cells hC.peers hkn
  rw [hp9.out] at hp'
  injection hp' with hp'
  subst hp'
  rw [e1] at q3
  have k1 : (k : Int) < c.pn := by omega
  have k0 : (0 : Int) ≤ k := by omega
  have k2 : decide ((k : Int) < 0) = false := by simp
  have k3 : decide ((c.pn : Int) ≤ k) = false := by simp; omega
  clear hp
  have hbx := (Below.refl w1.heap.size w1).alloc (Nat.le_refl _) (.cells #[.int .i64 p.as_, .int .i64 p.hold, .int .i64 p.retry, .int .i64 p.gap, .int .i64 p.med, .int .i64 p.prep, .int .i64 p.back] 72)
  have hq5 := Blk.new w1 72 #[.int .i64 p.as_, .int .i64 p.hold, .int .i64 p.retry, .int .i64 p.gap, .int .i64 p.med, .int .i64 p.prep, .int .i64 p.back]
  go_upto_region 4 with (fail)
  generalize w1.alloc (.cells #[.int .i64 p.as_, .int .i64 p.hold, .int .i64 p.retry, .int .i64 p.gap, .int .i64 p.med, .int .i64 p.prep, .int .i64 p.back] 72) = w2 at *
  replace hq := hq.below hbx ql
  replace hz := hz.below hbx zl
  replace hB := hB.trans (hbx.mono hB.size)
  clear q0 q1 q3 q12 r0 r1 r2 r3 r4 r5 r6 ql zl hbx
  have q0 : w2.cell? ⟨w.heap.size, 0, none⟩ = some (.int .i64 c.as_) := hq.cellv 0 rfl
  have q1 : w2.cell? ⟨w.heap.size, 1, none⟩ = some (.int .u32 c.id) := hq.cellv 1 rfl
  have q12 : w2.cell? ⟨w.heap.size, 12, none⟩ = some (.int .i64 c.queue) := hq.cellv 12 rfl
  have ql := hq.lt
  have zl := hz.lt
  have p0 : w2.cell? ⟨w1.heap.size, 0, none⟩ = some (.int .i64 p.as_) := hq5.cellv 0 rfl
  have p1 : w2.cell? ⟨w1.heap.size, 1, none⟩ = some (.int .i64 p.hold) := hq5.cellv 1 rfl
  have p2 : w2.cell? ⟨w1.heap.size, 2, none⟩ = some (.int .i64 p.retry) := hq5.cellv 2 rfl
  have p3 : w2.cell? ⟨w1.heap.size, 3, none⟩ = some (.int .i64 p.gap) := hq5.cellv 3 rfl
  have p4 : w2.cell? ⟨w1.heap.size, 4, none⟩ = some (.int .i64 p.med) := hq5.cellv 4 rfl
  have p5 : w2.cell? ⟨w1.heap.size, 5, none⟩ = some (.int .i64 p.prep) := hq5.cellv 5 rfl
  have p6 : w2.cell? ⟨w1.heap.size, 6, none⟩ = some (.int .i64 p.back) := hq5.cellv 6 rfl
  have pl := hq5.lt
  go_wp2_with (refine wpList_store_blk rfl hz 51 (.tmp 4) (.tmp 36) rfl rfl rfl rfl hi (by simp [Value.oneCell']) ?_; intro w9 hz9 hg9)
  exact bodyPost_ret (results_c rfl _ rfl (load_blk hz9 Try.underlying51 rfl hi)) rfl ⟨rfl, below_own hB hg9 hB.size (by omega)⟩
set_option maxRecDepth 100000 in
set_option maxHeartbeats 4000000 in
theorem policyC_yes (w : World) (c : CfgV) (k : Nat) (p : PeerV) (h : CfgIn w c) (hp : c.P[k]? = some p) : Calls Try.prog 10 #[.agg (cfgC c), .int .i64 (k : Int)] w fun e w' => e = .returned (.agg (polA c p)) ∧ Below w.heap.size w w' := by
  have hB := ((Below.refl w.heap.size w).alloc (Nat.le_refl _) (.cells (cfgC c) 29)).alloc (by simp) (.cells #[.int .i64 0, .int .u32 0, .int .i64 0, .int .i64 0, .int .i64 0] 54)
  have hq := (Blk.new w 29 (cfgC c)).alloc (.cells #[.int .i64 0, .int .u32 0, .int .i64 0, .int .i64 0, .int .i64 0] 54)
  have hz := Blk.new (w.alloc (.cells (cfgC c) 29)) 54 #[.int .i64 0, .int .u32 0, .int .i64 0, .int .i64 0, .int .i64 0]
  rw [World.size_alloc] at hz
  have hC := h.nx hB
  have hi : (Try.prog.info? 54).map (·.size) = some (#[.int .i64 0, .int .u32 0, .int .i64 0, .int .i64 0, .int .i64 0] : Array Value).size := by kernel_rfl
  go_enter Try.func10, Try.ntmps10
  go_upto_region 1 with (fail)
  generalize (w.alloc (.cells (cfgC c) 29)).alloc (.cells #[.int .i64 0, .int .u32 0, .int .i64 0, .int .i64 0, .int .i64 0] 54) = w1 at *
  have ql := hq.lt
  have zl := hz.lt
  have hiC : (Try.prog.info? 29).map (·.size) = some (cfgC c).size := by kernel_rfl
  go_wp2_with (refine wpList_load_blk rfl hq 29 (.tmp 2) rfl rfl Try.underlying29 rfl hiC ?_)
  refine (peer_yes w1 c k p hC hp).mono ?_
  rintro e w2 ⟨rfl, hb⟩
  replace hq := hq.below hb ql
  replace hz := hz.below hb zl
  replace hB := hB.trans (hb.mono hB.size)
  clear hb ql zl
  have ql := hq.lt
  have zl := hz.lt
  rw [show peerA p = #[.int .i64 p.as_, .int .i64 p.hold, .int .i64 p.retry, .int .i64 p.gap, .int .i64 p.med, .int .i64 p.prep, .int .i64 p.back] from rfl]
  have hbx := (Below.refl w2.heap.size w2).alloc (Nat.le_refl _) (.cells #[.int .i64 p.as_, .int .i64 p.hold, .int .i64 p.retry, .int .i64 p.gap, .int .i64 p.med, .int .i64 p.prep, .int .i64 p.back] 71)
  have hq5 := Blk.new w2 71 #[.int .i64 p.as_, .int .i64 p.hold, .int .i64 p.retry, .int .i64 p.gap, .int .i64 p.med, .int .i64 p.prep, .int .i64 p.back]
  go_upto_region 2 with (fail)
  generalize w2.alloc (.cells #[.int .i64 p.as_, .int .i64 p.hold, .int .i64 p.retry, .int .i64 p.gap, .int .i64 p.med, .int .i64 p.prep, .int .i64 p.back] 71) = w3 at *
  replace hq := hq.below hbx ql
  replace hz := hz.below hbx zl
  replace hB := hB.trans (hbx.mono hB.size)
  clear ql zl hbx
  have q0 : w3.cell? ⟨w.heap.size, 0, none⟩ = some (.int .i64 c.as_) := hq.cellv 0 rfl
  have q2 : w3.cell? ⟨w.heap.size, 2, none⟩ = some (.int .u32 c.own) := hq.cellv 2 rfl
  have ql := hq.lt
  have zl := hz.lt
  have p0 : w3.cell? ⟨w2.heap.size, 0, none⟩ = some (.int .i64 p.as_) := hq5.cellv 0 rfl
  have p1 : w3.cell? ⟨w2.heap.size, 1, none⟩ = some (.int .i64 p.hold) := hq5.cellv 1 rfl
  have p2 : w3.cell? ⟨w2.heap.size, 2, none⟩ = some (.int .i64 p.retry) := hq5.cellv 2 rfl
  have p3 : w3.cell? ⟨w2.heap.size, 3, none⟩ = some (.int .i64 p.gap) := hq5.cellv 3 rfl
  have p4 : w3.cell? ⟨w2.heap.size, 4, none⟩ = some (.int .i64 p.med) := hq5.cellv 4 rfl
  have p5 : w3.cell? ⟨w2.heap.size, 5, none⟩ = some (.int .i64 p.prep) := hq5.cellv 5 rfl
  have p6 : w3.cell? ⟨w2.heap.size, 6, none⟩ = some (.int .i64 p.back) := hq5.cellv 6 rfl
  have pl := hq5.lt
  go_wp2_with (refine wpList_store_blk rfl hz 54 (.tmp 4) (.tmp 26) rfl rfl rfl rfl hi (by simp [Value.oneCell']) ?_; intro w9 hz9 hg9)
  exact bodyPost_ret (results_c rfl _ rfl (load_blk hz9 Try.underlying54 rfl hi)) rfl ⟨rfl, below_own hB hg9 hB.size (by omega)⟩
set_option maxRecDepth 100000 in
set_option maxHeartbeats 4000000 in
theorem policyC_no (w : World) (c : CfgV) (k : Int) (h : CfgIn w c) (hk : k < 0 ∨ (c.pn : Int) ≤ k) : Calls Try.prog 10 #[.agg (cfgC c), .int .i64 k] w fun e w' => e = .returned (.agg #[.int .i64 0, .int .u32 0, .int .i64 0, .int .i64 0, .int .i64 0]) ∧ Below w.heap.size w w' := by
  have hB := ((Below.refl w.heap.size w).alloc (Nat.le_refl _) (.cells (cfgC c) 29)).alloc (by simp) (.cells #[.int .i64 0, .int .u32 0, .int .i64 0, .int .i64 0, .int .i64 0] 54)
  have hq := (Blk.new w 29 (cfgC c)).alloc (.cells #[.int .i64 0, .int .u32 0, .int .i64 0, .int .i64 0, .int .i64 0] 54)
  have hz := Blk.new (w.alloc (.cells (cfgC c) 29)) 54 #[.int .i64 0, .int .u32 0, .int .i64 0, .int .i64 0, .int .i64 0]
  rw [World.size_alloc] at hz
  have hC := h.nx hB
  have hi : (Try.prog.info? 54).map (·.size) = some (#[.int .i64 0, .int .u32 0, .int .i64 0, .int .i64 0, .int .i64 0] : Array Value).size := by kernel_rfl
  go_enter Try.func10, Try.ntmps10
  go_upto_region 1 with (fail)
  generalize (w.alloc (.cells (cfgC c) 29)).alloc (.cells #[.int .i64 0, .int .u32 0, .int .i64 0, .int .i64 0, .int .i64 0] 54) = w1 at *
  have ql := hq.lt
  have zl := hz.lt
  have hiC : (Try.prog.info? 29).map (·.size) = some (cfgC c).size := by kernel_rfl
  go_wp2_with (refine wpList_load_blk rfl hq 29 (.tmp 2) rfl rfl Try.underlying29 rfl hiC ?_)
  refine (peer_no w1 c k hC hk).mono ?_
  rintro e w2 ⟨rfl, hb⟩
  replace hq := hq.below hb ql
  replace hz := hz.below hb zl
  replace hB := hB.trans (hb.mono hB.size)
  clear hb ql zl
  have ql := hq.lt
  have zl := hz.lt
  rw [show peerA peerZ = #[.int .i64 0, .int .i64 0, .int .i64 0, .int .i64 0, .int .i64 0, .int .i64 0, .int .i64 0] from rfl]
  have hbx := (Below.refl w2.heap.size w2).alloc (Nat.le_refl _) (.cells #[.int .i64 0, .int .i64 0, .int .i64 0, .int .i64 0, .int .i64 0, .int .i64 0, .int .i64 0] 71)
  have hq5 := Blk.new w2 71 #[.int .i64 0, .int .i64 0, .int .i64 0, .int .i64 0, .int .i64 0, .int .i64 0, .int .i64 0]
  go_upto_region 2 with (fail)
  generalize w2.alloc (.cells #[.int .i64 0, .int .i64 0, .int .i64 0, .int .i64 0, .int .i64 0, .int .i64 0, .int .i64 0] 71) = w3 at *
  replace hq := hq.below hbx ql
  replace hz := hz.below hbx zl
  replace hB := hB.trans (hbx.mono hB.size)
  clear ql zl hbx
  have ql := hq.lt
  have zl := hz.lt
  go_wp2_with (refine wpList_store_blk rfl hz 54 (.tmp 4) (.tmp 15) rfl rfl rfl rfl hi (by simp [Value.oneCell']) ?_; intro w9 hz9 hg9)
  exact bodyPost_ret (results_c rfl _ rfl (load_blk hz9 Try.underlying54 rfl hi)) rfl ⟨rfl, below_own hB hg9 hB.size (by omega)⟩
set_option maxRecDepth 100000 in
set_option maxHeartbeats 4000000 in
theorem speakerC_yes (w : World) (c : CfgV) (k : Nat) (p : PeerV) (h : CfgIn w c) (hp : c.P[k]? = some p) : Calls Try.prog 9 #[.agg (cfgC c), .int .i64 (k : Int)] w fun e w' => e = .returned (.agg (spkA c p)) ∧ Below w.heap.size w w' := by
  have hB := ((Below.refl w.heap.size w).alloc (Nat.le_refl _) (.cells (cfgC c) 29)).alloc (by simp) (.cells #[.int .i64 0, .int .i64 0, .int .u32 0, .int .i64 0, .int .i64 0, .int .i64 0, .int .i64 0] 47)
  have hq := (Blk.new w 29 (cfgC c)).alloc (.cells #[.int .i64 0, .int .i64 0, .int .u32 0, .int .i64 0, .int .i64 0, .int .i64 0, .int .i64 0] 47)
  have hz := Blk.new (w.alloc (.cells (cfgC c) 29)) 47 #[.int .i64 0, .int .i64 0, .int .u32 0, .int .i64 0, .int .i64 0, .int .i64 0, .int .i64 0]
  rw [World.size_alloc] at hz
  have hC := h.nx hB
  have hi : (Try.prog.info? 47).map (·.size) = some (#[.int .i64 0, .int .i64 0, .int .u32 0, .int .i64 0, .int .i64 0, .int .i64 0, .int .i64 0] : Array Value).size := by kernel_rfl
  go_enter Try.func9, Try.ntmps9
  go_upto_region 1 with (fail)
  generalize (w.alloc (.cells (cfgC c) 29)).alloc (.cells #[.int .i64 0, .int .i64 0, .int .u32 0, .int .i64 0, .int .i64 0, .int .i64 0, .int .i64 0] 47) = w1 at *
  have ql := hq.lt
  have zl := hz.lt
  have hiC : (Try.prog.info? 29).map (·.size) = some (cfgC c).size := by kernel_rfl
  go_wp2_with (refine wpList_load_blk rfl hq 29 (.tmp 2) rfl rfl Try.underlying29 rfl hiC ?_)
  refine (peer_yes w1 c k p hC hp).mono ?_
  rintro e w2 ⟨rfl, hb⟩
  replace hq := hq.below hb ql
  replace hz := hz.below hb zl
  replace hB := hB.trans (hb.mono hB.size)
  clear hb ql zl
  have ql := hq.lt
  have zl := hz.lt
  rw [show peerA p = #[.int .i64 p.as_, .int .i64 p.hold, .int .i64 p.retry, .int .i64 p.gap, .int .i64 p.med, .int .i64 p.prep, .int .i64 p.back] from rfl]
  have hbx := (Below.refl w2.heap.size w2).alloc (Nat.le_refl _) (.cells #[.int .i64 p.as_, .int .i64 p.hold, .int .i64 p.retry, .int .i64 p.gap, .int .i64 p.med, .int .i64 p.prep, .int .i64 p.back] 71)
  have hq5 := Blk.new w2 71 #[.int .i64 p.as_, .int .i64 p.hold, .int .i64 p.retry, .int .i64 p.gap, .int .i64 p.med, .int .i64 p.prep, .int .i64 p.back]
  go_upto_region 2 with (fail)
  generalize w2.alloc (.cells #[.int .i64 p.as_, .int .i64 p.hold, .int .i64 p.retry, .int .i64 p.gap, .int .i64 p.med, .int .i64 p.prep, .int .i64 p.back] 71) = w3 at *
  replace hq := hq.below hbx ql
  replace hz := hz.below hbx zl
  replace hB := hB.trans (hbx.mono hB.size)
  clear ql zl hbx
  have q0 : w3.cell? ⟨w.heap.size, 0, none⟩ = some (.int .i64 c.as_) := hq.cellv 0 rfl
  have q1 : w3.cell? ⟨w.heap.size, 1, none⟩ = some (.int .u32 c.id) := hq.cellv 1 rfl
  have q12 : w3.cell? ⟨w.heap.size, 12, none⟩ = some (.int .i64 c.queue) := hq.cellv 12 rfl
  have ql := hq.lt
  have zl := hz.lt
  have p0 : w3.cell? ⟨w2.heap.size, 0, none⟩ = some (.int .i64 p.as_) := hq5.cellv 0 rfl
  have p1 : w3.cell? ⟨w2.heap.size, 1, none⟩ = some (.int .i64 p.hold) := hq5.cellv 1 rfl
  have p2 : w3.cell? ⟨w2.heap.size, 2, none⟩ = some (.int .i64 p.retry) := hq5.cellv 2 rfl
  have p3 : w3.cell? ⟨w2.heap.size, 3, none⟩ = some (.int .i64 p.gap) := hq5.cellv 3 rfl
  have p4 : w3.cell? ⟨w2.heap.size, 4, none⟩ = some (.int .i64 p.med) := hq5.cellv 4 rfl
  have p5 : w3.cell? ⟨w2.heap.size, 5, none⟩ = some (.int .i64 p.prep) := hq5.cellv 5 rfl
  have p6 : w3.cell? ⟨w2.heap.size, 6, none⟩ = some (.int .i64 p.back) := hq5.cellv 6 rfl
  have pl := hq5.lt
  have hbs := (Below.refl w3.heap.size w3).alloc (Nat.le_refl _) (.cells #[.int .i64 c.as_, .int .i64 p.as_, .int .u32 c.id, .int .i64 p.hold, .int .i64 p.retry, .int .i64 c.queue] 45)
  have hq7 := Blk.new w3 45 #[.int .i64 c.as_, .int .i64 p.as_, .int .u32 c.id, .int .i64 p.hold, .int .i64 p.retry, .int .i64 c.queue]
  go_upto_region 5 with (fail)
  generalize w3.alloc (.cells #[.int .i64 c.as_, .int .i64 p.as_, .int .u32 c.id, .int .i64 p.hold, .int .i64 p.retry, .int .i64 c.queue] 45) = w4 at *
  replace hq5 := hq5.below hbs pl
  replace hz := hz.below hbs zl
  replace hB := hB.trans (hbs.mono hB.size)
  clear q0 q1 q12 p0 p1 p2 p3 p4 p5 p6 pl zl hbs ql hq
  have zl := hz.lt
  have pl := hq5.lt
  have p3 : w4.cell? ⟨w2.heap.size, 3, none⟩ = some (.int .i64 p.gap) := hq5.cellv 3 rfl
  have s0 : w4.cell? ⟨w3.heap.size, 0, none⟩ = some (.int .i64 c.as_) := hq7.cellv 0 rfl
  have s1 : w4.cell? ⟨w3.heap.size, 1, none⟩ = some (.int .i64 p.as_) := hq7.cellv 1 rfl
  have s2 : w4.cell? ⟨w3.heap.size, 2, none⟩ = some (.int .u32 c.id) := hq7.cellv 2 rfl
  have s3 : w4.cell? ⟨w3.heap.size, 3, none⟩ = some (.int .i64 p.hold) := hq7.cellv 3 rfl
  have s4 : w4.cell? ⟨w3.heap.size, 4, none⟩ = some (.int .i64 p.retry) := hq7.cellv 4 rfl
  have s5 : w4.cell? ⟨w3.heap.size, 5, none⟩ = some (.int .i64 c.queue) := hq7.cellv 5 rfl
  have sl := hq7.lt
  go_wp2_with (refine wpList_store_blk rfl hz 47 (.tmp 4) (.tmp 33) rfl rfl rfl rfl hi (by simp [Value.oneCell']) ?_; intro w9 hz9 hg9)
  exact bodyPost_ret (results_c rfl _ rfl (load_blk hz9 Try.underlying47 rfl hi)) rfl ⟨rfl, below_own hB hg9 hB.size (by omega)⟩
set_option maxRecDepth 100000 in
set_option maxHeartbeats 4000000 in
theorem speakerC_no (w : World) (c : CfgV) (k : Int) (h : CfgIn w c) (hk : k < 0 ∨ (c.pn : Int) ≤ k) : Calls Try.prog 9 #[.agg (cfgC c), .int .i64 k] w fun e w' => e = .returned (.agg #[.int .i64 0, .int .i64 0, .int .u32 0, .int .i64 0, .int .i64 0, .int .i64 0, .int .i64 0]) ∧ Below w.heap.size w w' := by
  have hB := ((Below.refl w.heap.size w).alloc (Nat.le_refl _) (.cells (cfgC c) 29)).alloc (by simp) (.cells #[.int .i64 0, .int .i64 0, .int .u32 0, .int .i64 0, .int .i64 0, .int .i64 0, .int .i64 0] 47)
  have hq := (Blk.new w 29 (cfgC c)).alloc (.cells #[.int .i64 0, .int .i64 0, .int .u32 0, .int .i64 0, .int .i64 0, .int .i64 0, .int .i64 0] 47)
  have hz := Blk.new (w.alloc (.cells (cfgC c) 29)) 47 #[.int .i64 0, .int .i64 0, .int .u32 0, .int .i64 0, .int .i64 0, .int .i64 0, .int .i64 0]
  rw [World.size_alloc] at hz
  have hC := h.nx hB
  have hi : (Try.prog.info? 47).map (·.size) = some (#[.int .i64 0, .int .i64 0, .int .u32 0, .int .i64 0, .int .i64 0, .int .i64 0, .int .i64 0] : Array Value).size := by kernel_rfl
  go_enter Try.func9, Try.ntmps9
  go_upto_region 1 with (fail)
  generalize (w.alloc (.cells (cfgC c) 29)).alloc (.cells #[.int .i64 0, .int .i64 0, .int .u32 0, .int .i64 0, .int .i64 0, .int .i64 0, .int .i64 0] 47) = w1 at *
  have ql := hq.lt
  have zl := hz.lt
  have hiC : (Try.prog.info? 29).map (·.size) = some (cfgC c).size := by kernel_rfl
  go_wp2_with (refine wpList_load_blk rfl hq 29 (.tmp 2) rfl rfl Try.underlying29 rfl hiC ?_)
  refine (peer_no w1 c k hC hk).mono ?_
  rintro e w2 ⟨rfl, hb⟩
  replace hq := hq.below hb ql
  replace hz := hz.below hb zl
  replace hB := hB.trans (hb.mono hB.size)
  clear hb ql zl
  have ql := hq.lt
  have zl := hz.lt
  rw [show peerA peerZ = #[.int .i64 0, .int .i64 0, .int .i64 0, .int .i64 0, .int .i64 0, .int .i64 0, .int .i64 0] from rfl]
  have hbx := (Below.refl w2.heap.size w2).alloc (Nat.le_refl _) (.cells #[.int .i64 0, .int .i64 0, .int .i64 0, .int .i64 0, .int .i64 0, .int .i64 0, .int .i64 0] 71)
  have hq5 := Blk.new w2 71 #[.int .i64 0, .int .i64 0, .int .i64 0, .int .i64 0, .int .i64 0, .int .i64 0, .int .i64 0]
  go_upto_region 2 with (fail)
  generalize w2.alloc (.cells #[.int .i64 0, .int .i64 0, .int .i64 0, .int .i64 0, .int .i64 0, .int .i64 0, .int .i64 0] 71) = w3 at *
  replace hq := hq.below hbx ql
  replace hz := hz.below hbx zl
  replace hB := hB.trans (hbx.mono hB.size)
  clear ql zl hbx
  have ql := hq.lt
  have zl := hz.lt
  go_wp2_with (refine wpList_store_blk rfl hz 47 (.tmp 4) (.tmp 16) rfl rfl rfl rfl hi (by simp [Value.oneCell']) ?_; intro w9 hz9 hg9)
  exact bodyPost_ret (results_c rfl _ rfl (load_blk hz9 Try.underlying47 rfl hi)) rfl ⟨rfl, below_own hB hg9 hB.size (by omega)⟩
end Go.Proofs.Ytgdeecmhhbdjgaa
