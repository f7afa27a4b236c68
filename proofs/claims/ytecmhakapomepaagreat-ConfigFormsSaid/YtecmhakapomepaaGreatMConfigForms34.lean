import Derived.Test.YtecmhakapomepaaGreatMConfigForms28
import Derived.Test.YtecmhakapomepaaGreatMConfigForms31
import Derived.Test.YtecmhakapomepaaGreatMConfigForms33
import Derived.Deep.DeepCutAuto
import Derived.Test.YtecmhakapomepaaGreatMConfigForms2
/- config: the configuration of bytes. -/
namespace Go.Proofs.YtecmhakapomepaaGreat
set_option linter.unusedVariables false
open Go Go.RowKit

def nzB : Nat → Bool
  | 0 => false
  | _ => true
def twB : Nat → Bool
  | 2 => true
  | _ => false
def tvB (g : Nat) : Nat → Value
  | 0 => undef
  | _ => .pointer (some ⟨g, 0, none⟩)
theorem tvB1 (g : Nat) : tvB g 1 = .pointer (some ⟨g, 0, none⟩) := rfl
/-- a variable that is not there yet, there, or filled. -/
def VarS (B : Nat) (w : World) (g : Nat) (T : TypeId) (F : Value) : Nat → Prop
  | 0 => True
  | 1 => B ≤ g ∧ Blk w g T #[.nilFunc]
  | _ => B ≤ g ∧ Blk w g T #[F]
theorem VarS.below {B g : Nat} {w w' : World} {T : TypeId} {F : Value} : ∀ {s : Nat}, VarS B w g T F s → Below w.heap.size w w' → VarS B w' g T F s
  | 0, _, _ => trivial
  | 1, h, hb => ⟨h.1, h.2.below hb h.2.lt⟩
  | _ + 2, h, hb => ⟨h.1, h.2.below hb h.2.lt⟩
theorem VarS.grown {B g k : Nat} {w w' : World} {T : TypeId} {F : Value} : ∀ {s : Nat}, VarS B w g T F s → w.grownBy w' (some k) → (s ≠ 0 → g ≠ k) → VarS B w' g T F s
  | 0, _, _, _ => trivial
  | 1, h, hg, hne => ⟨h.1, h.2.grown hg (by have := hne (by omega); simp; omega)⟩
  | _ + 2, h, hg, hne => ⟨h.1, h.2.grown hg (by have := hne (by omega); simp; omega)⟩
theorem VarS.lt {B g : Nat} {w : World} {T : TypeId} {F : Value} : ∀ {s : Nat}, VarS B w g T F s → s ≠ 0 → g < w.heap.size
  | 0, _, h => absurd rfl h
  | 1, h, _ => h.2.lt
  | _ + 2, h, _ => h.2.lt
/-- a state of the three variables. -/
def VarI (w3 : World) (F5 F6 F7 : Value) (fr : Value → Value → Value → Act) (n : Nat) (b : Array Bool) (a : Act) (w : World) : Prop :=
  ∃ s5 s6 s7 g5 g6 g7, s5 ≤ 2 ∧ s6 ≤ 2 ∧ s7 ≤ 2 ∧ n + (s5 + s6 + s7) = 6 ∧ (s5 = 0 ∨ s6 = 0 ∨ s7 = 0 → s5 ≤ 1 ∧ s6 ≤ 1 ∧ s7 ≤ 1) ∧ (s6 = 2 → s5 = 2) ∧ (s7 = 2 → s6 = 2) ∧ b = #[true, true, true, true, true, true, nzB s5, nzB s6, nzB s7, twB s5, twB s6, twB s7] ∧ a = fr (tvB g5 s5) (tvB g6 s6) (tvB g7 s7) ∧ Below w3.heap.size w3 w ∧
    VarS w3.heap.size w g5 56 F5 s5 ∧ VarS w3.heap.size w g6 56 F6 s6 ∧ VarS w3.heap.size w g7 59 F7 s7 ∧ (s5 ≠ 0 → s6 ≠ 0 → g5 ≠ g6) ∧ (s5 ≠ 0 → s7 ≠ 0 → g5 ≠ g7) ∧ (s6 ≠ 0 → s7 ≠ 0 → g6 ≠ g7)
/-- the parser's variables are made. -/
def LeftF (w : World) (gs g4 : Nat) (s5 s6 s7 : Value) (wx : World) : Prop :=
  ∃ g5 g6 g7, s5 = .pointer (some ⟨g5, 0, none⟩) ∧ s6 = .pointer (some ⟨g6, 0, none⟩) ∧ s7 = .pointer (some ⟨g7, 0, none⟩) ∧ Below w.heap.size w wx ∧ w.heap.size ≤ g5 ∧ w.heap.size ≤ g6 ∧ w.heap.size ≤ g7 ∧
    Blk wx g5 56 #[.func (.func 17) #[.pointer (some ⟨gs, 0, none⟩)] #[]] ∧
    Blk wx g6 56 #[.func (.func 18) #[.pointer (some ⟨gs, 0, none⟩)] #[]] ∧
    Blk wx g7 59 #[.func (.func 19) #[.pointer (some ⟨gs, 0, none⟩)] #[]]
/-- the configuration's own variable is made. -/
def LeftC (w : World) (B : Nat) (A : Option Addr) (n : Nat) (l : List UInt8) (gs g4 g5 g6 g7 g8 : Nat) (s9 : Value) (wx : World) : Prop :=
  ∃ a9, s9 = .pointer (some ⟨a9, 0, none⟩) ∧ g8 < a9 ∧ w.heap.size < a9 ∧ Blk wx a9 29 #[.int .i64 (numV (pS0 l) 2), .int .u32 (numV (pS1 l) 4), .int .u32 (numV (pS2 l) 4), .slice none 0 0, .slice none 0 0, .slice none 0 0, .int .i64 0, .int .i64 0, .int .i64 0, .int .i64 0, .int .i64 0, .int .i64 0, .int .i64 0, .int .i64 0, .int .i64 0, .int .i64 0, .int .i64 0, .int .i64 0, .int .i64 0] ∧ Src wx gs (pS3 l) ∧ PEnv wx gs g4 g5 g6 g7 g8 ∧ Blk wx w.heap.size 29 #[.int .i64 0, .int .u32 0, .int .u32 0, .slice none 0 0, .slice none 0 0, .slice none 0 0, .int .i64 0, .int .i64 0, .int .i64 0, .int .i64 0, .int .i64 0, .int .i64 0, .int .i64 0, .int .i64 0, .int .i64 0, .int .i64 0, .int .i64 0, .int .i64 0, .int .i64 0] ∧ Below w.heap.size w wx ∧ Byt wx B A n l ∧ B ≤ wx.heap.size
theorem seen_step {α : Type} {R : RK α} {w w' : World} {A : Option Addr} {n a k : Nat} {L : List α} (h : Seen R w (fun b => a < b ∧ b < w.heap.size) A n L) (hg : w.grownBy w' (some k)) (hk : k ≤ a) : Seen R w' (fun b => a < b ∧ b < w'.heap.size) A n L :=
  (h.grown hg fun b q => ⟨q.2, fun e => by injection e with e; omega⟩).more fun b q => ⟨q.1, Nat.lt_of_lt_of_le q.2 hg.size⟩
/-- the zero value of a struct. -/
theorem wpList_zero {P : Program} {w : World} {cs : Array Value} {ops : Array Oper} {rest : List Oper} {op : Oper} {a : Act} {Q : Exit → Act → World → Prop} (hgd : op.guard = none) (ty : TypeId) (ho : op.op = .build ty #[])
    (hz : ∀ w, (Instr.build ty #[]).run P w = .ok (.agg cs) w) (hk : wpList P ops Q rest (a.put op.dst (.agg cs)) w) : wpList P ops Q (op :: rest) a w := by
  refine wpList_plain hgd fun K hK => ?_
  unfold Oper.wp execOp
  simp only [ho, Sem.run_bind, Sem.run_pure, Result.andThen_ok, Array.map_empty, hz]
  exact hK _ _ hk
theorem wpList_asg {P : Program} {w : World} {ops : Array Oper} {rest : List Oper} {op : Oper} {a : Act} {Q : Exit → Act → World → Prop} (n : Nat) (hd : op.dst = some n) (hgd : op.guard = none) (v : Value) (ho : op.op = .assign (.const v))
    (hk : wpList P ops Q rest (a.put op.dst v) w) : wpList P ops Q (op :: rest) a w := by
  refine wpList_plain hgd fun K hK => ?_
  unfold Oper.wp execOp
  simp only [ho, Sem.run_pure]
  exact hK _ _ hk
theorem seen_new {α : Type} {R : RK α} {w w' : World} {A : Option Addr} {n a : Nat} {L : List α} (h : Seen R w (fun b => a < b ∧ b < w.heap.size) A n L) (hb : Below w.heap.size w w') : Seen R w' (fun b => a < b ∧ b < w'.heap.size) A n L :=
  (h.below hb fun b q => q.2).more fun b q => ⟨q.1, Nat.lt_of_lt_of_le q.2 hb.size⟩
theorem byt_grown {w w' : World} {B n k : Nat} {A : Option Addr} {l : List UInt8} (h : Byt w B A n l) (hg : w.grownBy w' (some k)) (hB : B ≤ w.heap.size) (hk : B ≤ k) : Byt w' B A n l :=
  h.keep fun p hp => by
    unfold World.cell?
    rw [hg.block p.block (by omega) (by simp; omega)]
set_option maxRecDepth 100000 in
set_option maxHeartbeats 16000000 in
theorem parseC_core (w : World) (A : Option Addr) (n c : Nat) (l : List UInt8) (B : Nat) (h : Byt w B A n l) (hBw : B ≤ w.heap.size) (hn : n ≤ 5000) (PW : CfgW) (PE : Int) (hP : PW = parseW l ∧ PE = parseE l) : Calls Tryz.prog 6 #[.slice A n c] w fun e w' => ∃ c : CfgV, e = .returned (.tuple #[.agg (cfgC c), .int .i64 PE]) ∧ CfgIn w' c ∧ CfgSm c ∧ c.w = PW ∧ Below w.heap.size w w' := by
  replace hP := Lib.hid hP
  have hB := (Below.refl w.heap.size w).alloc (Nat.le_refl _) (.cells #[.int .i64 0, .int .u32 0, .int .u32 0, .slice none 0 0, .slice none 0 0, .slice none 0 0, .int .i64 0, .int .i64 0, .int .i64 0, .int .i64 0, .int .i64 0, .int .i64 0, .int .i64 0, .int .i64 0, .int .i64 0, .int .i64 0, .int .i64 0, .int .i64 0, .int .i64 0] 29)
  have h2 := Blk.new w 29 #[.int .i64 0, .int .u32 0, .int .u32 0, .slice none 0 0, .slice none 0 0, .slice none 0 0, .int .i64 0, .int .i64 0, .int .i64 0, .int .i64 0, .int .i64 0, .int .i64 0, .int .i64 0, .int .i64 0, .int .i64 0, .int .i64 0, .int .i64 0, .int .i64 0, .int .i64 0]
  replace h := h.alloc hBw (.cells #[.int .i64 0, .int .u32 0, .int .u32 0, .slice none 0 0, .slice none 0 0, .slice none 0 0, .int .i64 0, .int .i64 0, .int .i64 0, .int .i64 0, .int .i64 0, .int .i64 0, .int .i64 0, .int .i64 0, .int .i64 0, .int .i64 0, .int .i64 0, .int .i64 0, .int .i64 0] 29)
  have hB1 : B ≤ (w.alloc (.cells #[.int .i64 0, .int .u32 0, .int .u32 0, .slice none 0 0, .slice none 0 0, .slice none 0 0, .int .i64 0, .int .i64 0, .int .i64 0, .int .i64 0, .int .i64 0, .int .i64 0, .int .i64 0, .int .i64 0, .int .i64 0, .int .i64 0, .int .i64 0, .int .i64 0, .int .i64 0] 29)).heap.size := Nat.le_trans hBw hB.size
  go_enter Tryz.func6, Tryz.ntmps6
  go_upto_region 1 with (fail)
  generalize w.alloc (.cells #[.int .i64 0, .int .u32 0, .int .u32 0, .slice none 0 0, .slice none 0 0, .slice none 0 0, .int .i64 0, .int .i64 0, .int .i64 0, .int .i64 0, .int .i64 0, .int .i64 0, .int .i64 0, .int .i64 0, .int .i64 0, .int .i64 0, .int .i64 0, .int .i64 0, .int .i64 0] 29) = w1 at *
  go_wp2_with fail
  refine (read_any w1 A n c l B h hB1 (by omega)).mono ?_
  rintro e w2 ⟨gs, rfl, hgs, hs, hb⟩
  have hx2 : w.heap.size < w1.heap.size := h2.lt
  replace h := h.keep fun p hp => hb.cell (by omega)
  replace h2 := h2.below hb h2.lt
  replace hB := hB.trans (hb.mono hB.size)
  have hz2 := hb.size
  replace hB1 : B ≤ w2.heap.size := by omega
  clear hb
  have hb := (Below.refl w2.heap.size w2).alloc (Nat.le_refl _) (.cells #[.pointer (some ⟨gs, 0, none⟩)] 57)
  have h4 := Blk.new w2 57 #[.pointer (some ⟨gs, 0, none⟩)]
  go_upto_region 2 with (fail)
  generalize w2.alloc (.cells #[.pointer (some ⟨gs, 0, none⟩)] 57) = w3 at *
  replace h := h.keep fun p hp => hb.cell (by omega)
  replace h2 := h2.below hb h2.lt
  have hx4 : gs < w2.heap.size := hs.lt
  replace hs := hs.below hb hs.lt
  replace hB := hB.trans (hb.mono hB.size)
  replace hB1 := Nat.le_trans hB1 hb.size
  clear hb
  generalize w2.heap.size = g4 at *
  have hx4' : gs < g4 := hx4
  have q4 := h4.cellv 0 (v := .pointer (some ⟨gs, 0, none⟩)) rfl
  have l4 := h4.lt
  have hst := fun (w : World) (p : Addr) (f : Fn) (x y : Array Value) (m : Mode) => run_store Tryz.prog w p (.func f x y) m rfl
  go_cut [5, 6, 7] (fun s5 s6 s7 wx => LeftF w3 gs g4 s5 s6 s7 wx)
  case first =>
    -- region 2: 0 1 2 3 4 5 6M 7M 8M 9M 10M 11M
    try refine wp_region_noPanic ?_
    have hs1r : Below w3.heap.size w3 w3.drew := (Below.refl _ _).drew
    refine wp_region_held_drew (S := fun w' => Below w3.heap.size w3 w') (by kernel_rfl) hs1r (fun _ => ?_)
    (refine held_takeA 0 (by rfl) ?_ (by kernel_rfl) (fun _ _ _ h => h) hs1r ?_ ?_; rotate_left; (focus (intro wq hSw; have hrd : ∀ b o, b < w3.heap.size → wq.cell? ⟨b, o, none⟩ = w3.cell? ⟨b, o, none⟩ := (fun b o h => hSw.cell (p := ⟨b, o, none⟩) h); go_simp; try with_reducible rfl; done)); try simp only [Act.put, List.setIfInBounds_toArray, List.set_cons_zero, List.set_cons_succ])
    (refine held_takeA 1 (by rfl) ?_ (by kernel_rfl) (fun _ _ _ h => h) hs1r ?_ ?_; rotate_left; (focus (intro wq hSw; have hrd : ∀ b o, b < w3.heap.size → wq.cell? ⟨b, o, none⟩ = w3.cell? ⟨b, o, none⟩ := (fun b o h => hSw.cell (p := ⟨b, o, none⟩) h); go_simp; try with_reducible rfl; done)); try simp only [Act.put, List.setIfInBounds_toArray, List.set_cons_zero, List.set_cons_succ])
    (refine held_takeA 2 (by rfl) ?_ (by kernel_rfl) (fun _ _ _ h => h) hs1r ?_ ?_; rotate_left; (focus (intro wq hSw; have hrd : ∀ b o, b < w3.heap.size → wq.cell? ⟨b, o, none⟩ = w3.cell? ⟨b, o, none⟩ := (fun b o h => hSw.cell (p := ⟨b, o, none⟩) h); go_simp; try with_reducible rfl; done)); try simp only [Act.put, List.setIfInBounds_toArray, List.set_cons_zero, List.set_cons_succ])
    (refine held_takeA 3 (by rfl) ?_ (by kernel_rfl) (fun _ _ _ h => h) hs1r ?_ ?_; rotate_left; (focus (intro wq hSw; have hrd : ∀ b o, b < w3.heap.size → wq.cell? ⟨b, o, none⟩ = w3.cell? ⟨b, o, none⟩ := (fun b o h => hSw.cell (p := ⟨b, o, none⟩) h); go_simp; try with_reducible rfl; done)); try simp only [Act.put, List.setIfInBounds_toArray, List.set_cons_zero, List.set_cons_succ])
    (refine held_takeA 4 (by rfl) ?_ (by kernel_rfl) (fun _ _ _ h => h) hs1r ?_ ?_; rotate_left; (focus (intro wq hSw; have hrd : ∀ b o, b < w3.heap.size → wq.cell? ⟨b, o, none⟩ = w3.cell? ⟨b, o, none⟩ := (fun b o h => hSw.cell (p := ⟨b, o, none⟩) h); go_simp; try with_reducible rfl; done)); try simp only [Act.put, List.setIfInBounds_toArray, List.set_cons_zero, List.set_cons_succ])
    (refine held_takeA 5 (by rfl) ?_ (by kernel_rfl) (fun _ _ _ h => h) hs1r ?_ ?_; rotate_left; (focus (intro wq hSw; have hrd : ∀ b o, b < w3.heap.size → wq.cell? ⟨b, o, none⟩ = w3.cell? ⟨b, o, none⟩ := (fun b o h => hSw.cell (p := ⟨b, o, none⟩) h); go_simp; try with_reducible rfl; done)); try simp only [Act.put, List.setIfInBounds_toArray, List.set_cons_zero, List.set_cons_succ])
    refine wpAnyH_inv (VarI w3 (.func (.func 17) #[.pointer (some ⟨gs, 0, none⟩)] #[]) (.func (.func 18) #[.pointer (some ⟨gs, 0, none⟩)] #[]) (.func (.func 19) #[.pointer (some ⟨gs, 0, none⟩)] #[]) (fun x5 x6 x7 => { tmps := #[.slice A n c, undef, .pointer (some ⟨w.heap.size, 0, none⟩), .int .i64 0, .pointer (some ⟨g4, 0, none⟩), x5, x6, x7, undef, undef, .slice A n c, .pointer (some ⟨gs, 0, none⟩), .pointer (some ⟨gs, 0, none⟩), .func (.func 17) #[.pointer (some ⟨gs, 0, none⟩)] #[], .pointer (some ⟨gs, 0, none⟩), .func (.func 18) #[.pointer (some ⟨gs, 0, none⟩)] #[], .pointer (some ⟨gs, 0, none⟩), .func (.func 19) #[.pointer (some ⟨gs, 0, none⟩)] #[], undef, undef, undef, undef, undef, undef, undef, undef, undef, undef, undef, undef, undef, undef, undef, undef, undef, undef, undef, undef, undef, undef, undef, undef, undef, undef, undef, undef, undef, undef, undef, undef, undef, undef, undef, undef, undef, undef, undef, undef, undef, undef, undef, undef, undef, undef, undef, undef, undef, undef, undef, undef, undef, undef, undef, undef, undef, undef, undef, undef, undef, undef, undef, undef, undef, undef, undef, undef], defers := [] })) ?_ ?_ 6 _ _ _ _ (by decide) ⟨0, 0, 0, 0, 0, 0, by omega, by omega, by omega, rfl, by omega, by omega, by omega, rfl, rfl, hs1r, trivial, trivial, trivial, fun h => absurd rfl h, fun h => absurd rfl h, fun h => absurd rfl h⟩
    · rintro b a w' ⟨s5, s6, s7, g5, g6, g7, h5, h6, h7, hn, hx, hx2, hx3, rfl, rfl, hB', f5, f6, f7, n1, n2, n3⟩
      obtain ⟨rfl, rfl, rfl⟩ : s5 = 2 ∧ s6 = 2 ∧ s7 = 2 := by omega
      refine ⟨by kernel_rfl, ?_⟩
      try refine NoPanic.normal ?_
      go_wp2_with fail
      go_meet
      exact ⟨g5, g6, g7, rfl, rfl, rfl, ⟨hB'.os, hB'.tape, hB'.output, hB'.size, hB'.block⟩, f5.1, f6.1, f7.1, f5.2, f6.2, f7.2⟩
    · rintro nn b a w' ⟨s5, s6, s7, g5, g6, g7, h5, h6, h7, hn, hx, hx2, hx3, rfl, rfl, hB', f5, f6, f7, n1, n2, n3⟩
      have hzB := hB'.size
      rcases (by omega : s5 = 0 ∨ s5 = 1 ∨ s5 = 2) with rfl | rfl | rfl <;> rcases (by omega : s6 = 0 ∨ s6 = 1 ∨ s6 = 2) with rfl | rfl | rfl <;> rcases (by omega : s7 = 0 ∨ s7 = 1 ∨ s7 = 2) with rfl | rfl | rfl
      · obtain rfl : nn = 5 := by omega
        refine ready_step (rs := [6, 7, 8]) (by kernel_rfl) (by simp) (fun i hi => ?_)
        simp only [List.mem_cons, List.not_mem_nil, or_false] at hi
        rcases hi with rfl | rfl | rfl
        · refine ⟨_, rfl, by kernel_rfl, fun K hK => ?_⟩
          have hbx := (Below.refl w'.heap.size w').alloc (Nat.le_refl _) (.cells #[.nilFunc] 56)
          have hBx := hB'.trans (hbx.mono hzB)
          go_simp
          refine hK.out _ _ hBx ⟨1, 0, 0, w'.heap.size, g6, g7, by omega, by omega, by omega, rfl, by omega, by omega, by omega, rfl, rfl, hBx, ⟨hzB, Blk.new w' 56 #[.nilFunc]⟩, f6.below hbx, f7.below hbx, (fun a b => by have := f6.lt b; omega), (fun a b => by have := f7.lt b; omega), n3⟩
        · refine ⟨_, rfl, by kernel_rfl, fun K hK => ?_⟩
          have hbx := (Below.refl w'.heap.size w').alloc (Nat.le_refl _) (.cells #[.nilFunc] 56)
          have hBx := hB'.trans (hbx.mono hzB)
          go_simp
          refine hK.out _ _ hBx ⟨0, 1, 0, g5, w'.heap.size, g7, by omega, by omega, by omega, rfl, by omega, by omega, by omega, rfl, rfl, hBx, f5.below hbx, ⟨hzB, Blk.new w' 56 #[.nilFunc]⟩, f7.below hbx, (fun a b => by have := f5.lt a; omega), n2, (fun a b => by have := f7.lt b; omega)⟩
        · refine ⟨_, rfl, by kernel_rfl, fun K hK => ?_⟩
          have hbx := (Below.refl w'.heap.size w').alloc (Nat.le_refl _) (.cells #[.nilFunc] 59)
          have hBx := hB'.trans (hbx.mono hzB)
          go_simp
          refine hK.out _ _ hBx ⟨0, 0, 1, g5, g6, w'.heap.size, by omega, by omega, by omega, rfl, by omega, by omega, by omega, rfl, rfl, hBx, f5.below hbx, f6.below hbx, ⟨hzB, Blk.new w' 59 #[.nilFunc]⟩, n1, (fun a b => by have := f5.lt a; omega), (fun a b => by have := f6.lt a; omega)⟩
      · obtain rfl : nn = 4 := by omega
        refine ready_step (rs := [6, 7]) (by kernel_rfl) (by simp) (fun i hi => ?_)
        simp only [List.mem_cons, List.not_mem_nil, or_false] at hi
        rcases hi with rfl | rfl
        · refine ⟨_, rfl, by kernel_rfl, fun K hK => ?_⟩
          have hbx := (Below.refl w'.heap.size w').alloc (Nat.le_refl _) (.cells #[.nilFunc] 56)
          have hBx := hB'.trans (hbx.mono hzB)
          go_simp
          refine hK.out _ _ hBx ⟨1, 0, 1, w'.heap.size, g6, g7, by omega, by omega, by omega, rfl, by omega, by omega, by omega, rfl, rfl, hBx, ⟨hzB, Blk.new w' 56 #[.nilFunc]⟩, f6.below hbx, f7.below hbx, (fun a b => by have := f6.lt b; omega), (fun a b => by have := f7.lt b; omega), n3⟩
        · refine ⟨_, rfl, by kernel_rfl, fun K hK => ?_⟩
          have hbx := (Below.refl w'.heap.size w').alloc (Nat.le_refl _) (.cells #[.nilFunc] 56)
          have hBx := hB'.trans (hbx.mono hzB)
          go_simp
          refine hK.out _ _ hBx ⟨0, 1, 1, g5, w'.heap.size, g7, by omega, by omega, by omega, rfl, by omega, by omega, by omega, rfl, rfl, hBx, f5.below hbx, ⟨hzB, Blk.new w' 56 #[.nilFunc]⟩, f7.below hbx, (fun a b => by have := f5.lt a; omega), n2, (fun a b => by have := f7.lt b; omega)⟩
      · omega
      · obtain rfl : nn = 4 := by omega
        refine ready_step (rs := [6, 8]) (by kernel_rfl) (by simp) (fun i hi => ?_)
        simp only [List.mem_cons, List.not_mem_nil, or_false] at hi
        rcases hi with rfl | rfl
        · refine ⟨_, rfl, by kernel_rfl, fun K hK => ?_⟩
          have hbx := (Below.refl w'.heap.size w').alloc (Nat.le_refl _) (.cells #[.nilFunc] 56)
          have hBx := hB'.trans (hbx.mono hzB)
          go_simp
          refine hK.out _ _ hBx ⟨1, 1, 0, w'.heap.size, g6, g7, by omega, by omega, by omega, rfl, by omega, by omega, by omega, rfl, rfl, hBx, ⟨hzB, Blk.new w' 56 #[.nilFunc]⟩, f6.below hbx, f7.below hbx, (fun a b => by have := f6.lt b; omega), (fun a b => by have := f7.lt b; omega), n3⟩
        · refine ⟨_, rfl, by kernel_rfl, fun K hK => ?_⟩
          have hbx := (Below.refl w'.heap.size w').alloc (Nat.le_refl _) (.cells #[.nilFunc] 59)
          have hBx := hB'.trans (hbx.mono hzB)
          go_simp
          refine hK.out _ _ hBx ⟨0, 1, 1, g5, g6, w'.heap.size, by omega, by omega, by omega, rfl, by omega, by omega, by omega, rfl, rfl, hBx, f5.below hbx, f6.below hbx, ⟨hzB, Blk.new w' 59 #[.nilFunc]⟩, n1, (fun a b => by have := f5.lt a; omega), (fun a b => by have := f6.lt a; omega)⟩
      · obtain rfl : nn = 3 := by omega
        refine ready_step (rs := [6]) (by kernel_rfl) (by simp) (fun i hi => ?_)
        simp only [List.mem_cons, List.not_mem_nil, or_false] at hi
        rcases hi with rfl
        · refine ⟨_, rfl, by kernel_rfl, fun K hK => ?_⟩
          have hbx := (Below.refl w'.heap.size w').alloc (Nat.le_refl _) (.cells #[.nilFunc] 56)
          have hBx := hB'.trans (hbx.mono hzB)
          go_simp
          refine hK.out _ _ hBx ⟨1, 1, 1, w'.heap.size, g6, g7, by omega, by omega, by omega, rfl, by omega, by omega, by omega, rfl, rfl, hBx, ⟨hzB, Blk.new w' 56 #[.nilFunc]⟩, f6.below hbx, f7.below hbx, (fun a b => by have := f6.lt b; omega), (fun a b => by have := f7.lt b; omega), n3⟩
      · omega
      · omega
      · omega
      · omega
      · obtain rfl : nn = 4 := by omega
        refine ready_step (rs := [7, 8]) (by kernel_rfl) (by simp) (fun i hi => ?_)
        simp only [List.mem_cons, List.not_mem_nil, or_false] at hi
        rcases hi with rfl | rfl
        · refine ⟨_, rfl, by kernel_rfl, fun K hK => ?_⟩
          have hbx := (Below.refl w'.heap.size w').alloc (Nat.le_refl _) (.cells #[.nilFunc] 56)
          have hBx := hB'.trans (hbx.mono hzB)
          go_simp
          refine hK.out _ _ hBx ⟨1, 1, 0, g5, w'.heap.size, g7, by omega, by omega, by omega, rfl, by omega, by omega, by omega, rfl, rfl, hBx, f5.below hbx, ⟨hzB, Blk.new w' 56 #[.nilFunc]⟩, f7.below hbx, (fun a b => by have := f5.lt a; omega), n2, (fun a b => by have := f7.lt b; omega)⟩
        · refine ⟨_, rfl, by kernel_rfl, fun K hK => ?_⟩
          have hbx := (Below.refl w'.heap.size w').alloc (Nat.le_refl _) (.cells #[.nilFunc] 59)
          have hBx := hB'.trans (hbx.mono hzB)
          go_simp
          refine hK.out _ _ hBx ⟨1, 0, 1, g5, g6, w'.heap.size, by omega, by omega, by omega, rfl, by omega, by omega, by omega, rfl, rfl, hBx, f5.below hbx, f6.below hbx, ⟨hzB, Blk.new w' 59 #[.nilFunc]⟩, n1, (fun a b => by have := f5.lt a; omega), (fun a b => by have := f6.lt a; omega)⟩
      · obtain rfl : nn = 3 := by omega
        refine ready_step (rs := [7]) (by kernel_rfl) (by simp) (fun i hi => ?_)
        simp only [List.mem_cons, List.not_mem_nil, or_false] at hi
        rcases hi with rfl
        · refine ⟨_, rfl, by kernel_rfl, fun K hK => ?_⟩
          have hbx := (Below.refl w'.heap.size w').alloc (Nat.le_refl _) (.cells #[.nilFunc] 56)
          have hBx := hB'.trans (hbx.mono hzB)
          go_simp
          refine hK.out _ _ hBx ⟨1, 1, 1, g5, w'.heap.size, g7, by omega, by omega, by omega, rfl, by omega, by omega, by omega, rfl, rfl, hBx, f5.below hbx, ⟨hzB, Blk.new w' 56 #[.nilFunc]⟩, f7.below hbx, (fun a b => by have := f5.lt a; omega), n2, (fun a b => by have := f7.lt b; omega)⟩
      · omega
      · obtain rfl : nn = 3 := by omega
        refine ready_step (rs := [8]) (by kernel_rfl) (by simp) (fun i hi => ?_)
        simp only [List.mem_cons, List.not_mem_nil, or_false] at hi
        rcases hi with rfl
        · refine ⟨_, rfl, by kernel_rfl, fun K hK => ?_⟩
          have hbx := (Below.refl w'.heap.size w').alloc (Nat.le_refl _) (.cells #[.nilFunc] 59)
          have hBx := hB'.trans (hbx.mono hzB)
          go_simp
          refine hK.out _ _ hBx ⟨1, 1, 1, g5, g6, w'.heap.size, by omega, by omega, by omega, rfl, by omega, by omega, by omega, rfl, rfl, hBx, f5.below hbx, f6.below hbx, ⟨hzB, Blk.new w' 59 #[.nilFunc]⟩, n1, (fun a b => by have := f5.lt a; omega), (fun a b => by have := f6.lt a; omega)⟩
      · obtain rfl : nn = 2 := by omega
        refine ready_step (rs := [9]) (by kernel_rfl) (by simp) (fun i hi => ?_)
        simp only [List.mem_cons, List.not_mem_nil, or_false] at hi
        rcases hi with rfl
        · refine ⟨_, rfl, by kernel_rfl, fun K hK => ?_⟩
          have fv := f5.2
          obtain ⟨so1, so2⟩ := blk_store fv 0 (.func (.func 17) #[.pointer (some ⟨gs, 0, none⟩)] #[])
          have q0 := fv.cellv 0 (v := .nilFunc) rfl
          have z0 := fv.frozen 0
          have l0 := fv.lt
          have hBx : Below w3.heap.size w3 (w'.setCell ⟨g5, 0, none⟩ (.func (.func 17) #[.pointer (some ⟨gs, 0, none⟩)] #[])) := below_own hB' so2 hzB f5.1
          simp only [tvB1]
          go_simp
          refine hK.out _ _ hBx ⟨2, 1, 1, g5, g6, g7, by omega, by omega, by omega, rfl, by omega, by omega, by omega, rfl, rfl, hBx, ⟨f5.1, so1⟩, f6.grown so2 (fun a => (n1 (by decide) a).symm), f7.grown so2 (fun a => (n2 (by decide) a).symm), (fun _ b => n1 (by decide) b), (fun _ b => n2 (by decide) b), n3⟩
      · omega
      · omega
      · omega
      · omega
      · omega
      · omega
      · omega
      · omega
      · obtain rfl : nn = 1 := by omega
        refine ready_step (rs := [10]) (by kernel_rfl) (by simp) (fun i hi => ?_)
        simp only [List.mem_cons, List.not_mem_nil, or_false] at hi
        rcases hi with rfl
        · refine ⟨_, rfl, by kernel_rfl, fun K hK => ?_⟩
          have fv := f6.2
          obtain ⟨so1, so2⟩ := blk_store fv 0 (.func (.func 18) #[.pointer (some ⟨gs, 0, none⟩)] #[])
          have q0 := fv.cellv 0 (v := .nilFunc) rfl
          have z0 := fv.frozen 0
          have l0 := fv.lt
          have hBx : Below w3.heap.size w3 (w'.setCell ⟨g6, 0, none⟩ (.func (.func 18) #[.pointer (some ⟨gs, 0, none⟩)] #[])) := below_own hB' so2 hzB f6.1
          simp only [tvB1]
          go_simp
          refine hK.out _ _ hBx ⟨2, 2, 1, g5, g6, g7, by omega, by omega, by omega, rfl, by omega, by omega, by omega, rfl, rfl, hBx, f5.grown so2 (fun a => n1 a (by decide)), ⟨f6.1, so1⟩, f7.grown so2 (fun a => (n3 (by decide) a).symm), (fun a _ => n1 a (by decide)), n2, (fun _ b => n3 (by decide) b)⟩
      · omega
      · omega
      · obtain rfl : nn = 0 := by omega
        refine ready_step (rs := [11]) (by kernel_rfl) (by simp) (fun i hi => ?_)
        simp only [List.mem_cons, List.not_mem_nil, or_false] at hi
        rcases hi with rfl
        · refine ⟨_, rfl, by kernel_rfl, fun K hK => ?_⟩
          have fv := f7.2
          obtain ⟨so1, so2⟩ := blk_store fv 0 (.func (.func 19) #[.pointer (some ⟨gs, 0, none⟩)] #[])
          have q0 := fv.cellv 0 (v := .nilFunc) rfl
          have z0 := fv.frozen 0
          have l0 := fv.lt
          have hBx : Below w3.heap.size w3 (w'.setCell ⟨g7, 0, none⟩ (.func (.func 19) #[.pointer (some ⟨gs, 0, none⟩)] #[])) := below_own hB' so2 hzB f7.1
          simp only [tvB1]
          go_simp
          refine hK.out _ _ hBx ⟨2, 2, 2, g5, g6, g7, by omega, by omega, by omega, rfl, by omega, by omega, by omega, rfl, rfl, hBx, f5.grown so2 (fun a => n2 a (by decide)), f6.grown so2 (fun a => n3 a (by decide)), ⟨f7.1, so1⟩, n1, (fun a _ => n2 a (by decide)), (fun a _ => n3 a (by decide))⟩
      · omega
  case rest =>
    clear q4 l4
    obtain ⟨g5, g6, g7, rfl, rfl, rfl, hb, x5, x6, x7, v5, v6, v7⟩ := hcut
    have hz3 := hb.size
    replace h := h.keep fun p hp => hb.cell (by omega)
    replace h2 := h2.below hb h2.lt
    have hx3 : gs < w3.heap.size := hs.lt
    have hx44 : g4 < w3.heap.size := h4.lt
    replace hs := hs.below hb hs.lt
    replace h4 := h4.below hb h4.lt
    replace hB := hB.trans (hb.mono hB.size)
    replace hB1 := Nat.le_trans hB1 hb.size
    clear hb
    have hb := (Below.refl wc.heap.size wc).alloc (Nat.le_refl _) (.cells #[.func (.func 20) #[] #[.pointer (some ⟨g4, 0, none⟩)]] 56)
    have v8 := Blk.new wc 56 #[.func (.func 20) #[] #[.pointer (some ⟨g4, 0, none⟩)]]
    go_upto_region 4 with (fail)
    generalize wc.alloc (.cells #[.func (.func 20) #[] #[.pointer (some ⟨g4, 0, none⟩)]] 56) = w5 at *
    have y5 := v5.lt
    have y6 := v6.lt
    have y7 := v7.lt
    have hE : PEnv w5 gs g4 g5 g6 g7 wc.heap.size := ⟨h4.below hb h4.lt, v5.below hb y5, v6.below hb y6, v7.below hb y7, v8, hx4', by omega, by omega, by omega, by omega⟩
    have hx8 : g4 < wc.heap.size := by omega
    have hgw : w.heap.size ≤ gs := by omega
    replace h := h.keep fun p hp => hb.cell (by omega)
    replace h2 := h2.below hb h2.lt
    replace hs := hs.below hb hs.lt
    replace hB := hB.trans (hb.mono hB.size)
    replace hB1 := Nat.le_trans hB1 hb.size
    clear hb h4 v5 v6 v7 v8
    generalize wc.heap.size = g8 at *
    replace hs : Src w5 gs (pS0 l) := hs
    have hlt8 : g8 < w5.heap.size := hE.n32.lt
    have hwB : B ≤ gs := by omega
    go_cut [9] (fun s9 wx => LeftC w B A n l gs g4 g5 g6 g7 g8 s9 wx)
    case first =>
      have c_n16 := hE.n16.cellv 0 (v := .func (.func 18) #[.pointer (some ⟨gs, 0, none⟩)] #[]) rfl
      have l_n16 := hE.n16.lt
      have k_n16 : g6 ≠ gs := by have := hE.ne; omega
      have c_ad := hE.ad.cellv 0 (v := .func (.func 19) #[.pointer (some ⟨gs, 0, none⟩)] #[]) rfl
      have l_ad := hE.ad.lt
      have k_ad : g7 ≠ gs := by have := hE.ne; omega
      have hG1 : w5.grownBy w5 (some gs) := grown_refl _ _
      -- region 4: 0 1C 2 3C 4 5C 6 7M 8M
      try refine wp_region_noPanic ?_
      have hs2r : w5.grownBy w5.drew (some gs) := grown_drew (grown_refl _ _)
      refine wp_region_E 8 (S := fun w' => w5.grownBy w' (some gs)) (by kernel_rfl) hs2r (fun _ => ?_)
      (refine e_takeA 0 (by rfl) ?_ (by kernel_rfl) (fun _ _ _ h => h) hs2r ?_ ?_; rotate_left; (focus (intro wq hSw; have hrd : ∀ b' o, b' < w5.heap.size → b' ≠ gs → wq.cell? ⟨b', o, none⟩ = w5.cell? ⟨b', o, none⟩ := (fun b' o h hne => grown_cell hSw h hne); go_simp; try with_reducible rfl; done)); try simp only [Act.put, List.setIfInBounds_toArray, List.set_cons_zero, List.set_cons_succ])
      (refine e_takeA 2 (by rfl) ?_ (by kernel_rfl) (fun _ _ _ h => h) hs2r ?_ ?_; rotate_left; (focus (intro wq hSw; have hrd : ∀ b' o, b' < w5.heap.size → b' ≠ gs → wq.cell? ⟨b', o, none⟩ = w5.cell? ⟨b', o, none⟩ := (fun b' o h hne => grown_cell hSw h hne); go_simp; try with_reducible rfl; done)); try simp only [Act.put, List.setIfInBounds_toArray, List.set_cons_zero, List.set_cons_succ])
      (refine e_takeA 4 (by rfl) ?_ (by kernel_rfl) (fun _ _ _ h => h) hs2r ?_ ?_; rotate_left; (focus (intro wq hSw; have hrd : ∀ b' o, b' < w5.heap.size → b' ≠ gs → wq.cell? ⟨b', o, none⟩ = w5.cell? ⟨b', o, none⟩ := (fun b' o h hne => grown_cell hSw h hne); go_simp; try with_reducible rfl; done)); try simp only [Act.put, List.setIfInBounds_toArray, List.set_cons_zero, List.set_cons_succ])
      refine e_two 1 7 (by rfl) (by rfl) (by kernel_rfl) (by rfl) (by rfl) (fun KQ hKQ => ?_) (fun KQ hKQ => ?_)
      · skip
        go_simp
        refine (u16P w5.drew gs (pS0 l) hs.drew).mono ?_
        rintro e y1 ⟨rfl, hs, hg⟩
        replace hs : Src y1 gs (pS1 l) := hs
        replace hg : w5.grownBy y1 (some gs) := grown_trans (grown_drew (grown_refl _ _)) hg
        replace hE := hE.grown hg
        replace h2 := h2.grown hg (by simp; omega)
        replace hB := below_own hB hg hB.size hgw
        replace h := byt_grown h hg hB1 hwB
        replace hB1 := Nat.le_trans hB1 hg.size
        replace hG1 := grown_trans hG1 hg
        clear hg 
        have hs3r := hG1
        refine hKQ.out _ _ hs3r ?_
        clear hKQ KQ
        try simp only [Act.put, List.setIfInBounds_toArray, List.set_cons_zero, List.set_cons_succ]
        refine e_two 3 7 (by rfl) (by rfl) (by kernel_rfl) (by rfl) (by rfl) (fun KQ hKQ => ?_) (fun KQ hKQ => ?_)
        · skip
          go_simp
          refine (u32P y1 gs (pS1 l) hs).mono ?_
          rintro e y2 ⟨rfl, hs, hg⟩
          replace hs : Src y2 gs (pS2 l) := hs
          replace hE := hE.grown hg
          replace h2 := h2.grown hg (by simp; omega)
          replace hB := below_own hB hg hB.size hgw
          replace h := byt_grown h hg hB1 hwB
          replace hB1 := Nat.le_trans hB1 hg.size
          replace hG1 := grown_trans hG1 hg
          clear hg 
          have hs4r := hG1
          refine hKQ.out _ _ hs4r ?_
          clear hKQ KQ
          try simp only [Act.put, List.setIfInBounds_toArray, List.set_cons_zero, List.set_cons_succ]
          refine e_two 5 7 (by rfl) (by rfl) (by kernel_rfl) (by rfl) (by rfl) (fun KQ hKQ => ?_) (fun KQ hKQ => ?_)
          · skip
            go_simp
            refine (u32P y2 gs (pS2 l) hs).mono ?_
            rintro e y3 ⟨rfl, hs, hg⟩
            replace hs : Src y3 gs (pS3 l) := hs
            replace hE := hE.grown hg
            replace h2 := h2.grown hg (by simp; omega)
            replace hB := below_own hB hg hB.size hgw
            replace h := byt_grown h hg hB1 hwB
            replace hB1 := Nat.le_trans hB1 hg.size
            replace hG1 := grown_trans hG1 hg
            clear hg 
            have hs5r := hG1
            refine hKQ.out _ _ hs5r ?_
            clear hKQ KQ
            try simp only [Act.put, List.setIfInBounds_toArray, List.set_cons_zero, List.set_cons_succ]
            (refine e_takeA 6 (by rfl) ?_ (by kernel_rfl) (fun _ _ _ h => h) hs5r ?_ ?_; rotate_left; (focus (intro wq hSw; have hrd : ∀ b' o, b' < w5.heap.size → b' ≠ gs → wq.cell? ⟨b', o, none⟩ = w5.cell? ⟨b', o, none⟩ := (fun b' o h hne => grown_cell hSw h hne); go_simp; try with_reducible rfl; done)); try simp only [Act.put, List.setIfInBounds_toArray, List.set_cons_zero, List.set_cons_succ])
            refine e_callA 7 (by rfl) (by kernel_rfl) (by rfl) (fun KQ hKQ => ?_)
            go_simp
            have hb := (Below.refl y3.heap.size y3).alloc (Nat.le_refl _) (.cells #[.int .i64 0, .int .u32 0, .int .u32 0, .slice none 0 0, .slice none 0 0, .slice none 0 0, .int .i64 0, .int .i64 0, .int .i64 0, .int .i64 0, .int .i64 0, .int .i64 0, .int .i64 0, .int .i64 0, .int .i64 0, .int .i64 0, .int .i64 0, .int .i64 0, .int .i64 0] 29)
            have hv : Blk (y3.alloc (.cells #[.int .i64 0, .int .u32 0, .int .u32 0, .slice none 0 0, .slice none 0 0, .slice none 0 0, .int .i64 0, .int .i64 0, .int .i64 0, .int .i64 0, .int .i64 0, .int .i64 0, .int .i64 0, .int .i64 0, .int .i64 0, .int .i64 0, .int .i64 0, .int .i64 0, .int .i64 0] 29)) y3.heap.size 29 #[.int .i64 0, .int .u32 0, .int .u32 0, .slice none 0 0, .slice none 0 0, .slice none 0 0, .int .i64 0, .int .i64 0, .int .i64 0, .int .i64 0, .int .i64 0, .int .i64 0, .int .i64 0, .int .i64 0, .int .i64 0, .int .i64 0, .int .i64 0, .int .i64 0, .int .i64 0] := Blk.new y3 29 #[.int .i64 0, .int .u32 0, .int .u32 0, .slice none 0 0, .slice none 0 0, .slice none 0 0, .int .i64 0, .int .i64 0, .int .i64 0, .int .i64 0, .int .i64 0, .int .i64 0, .int .i64 0, .int .i64 0, .int .i64 0, .int .i64 0, .int .i64 0, .int .i64 0, .int .i64 0]
            have hd9 : (y3.alloc (.cells #[.int .i64 0, .int .u32 0, .int .u32 0, .slice none 0 0, .slice none 0 0, .slice none 0 0, .int .i64 0, .int .i64 0, .int .i64 0, .int .i64 0, .int .i64 0, .int .i64 0, .int .i64 0, .int .i64 0, .int .i64 0, .int .i64 0, .int .i64 0, .int .i64 0, .int .i64 0] 29)).drew = y3.drew.alloc (.cells #[.int .i64 0, .int .u32 0, .int .u32 0, .slice none 0 0, .slice none 0 0, .slice none 0 0, .int .i64 0, .int .i64 0, .int .i64 0, .int .i64 0, .int .i64 0, .int .i64 0, .int .i64 0, .int .i64 0, .int .i64 0, .int .i64 0, .int .i64 0, .int .i64 0, .int .i64 0] 29) := rfl
            try rw [hd9]
            clear hd9
            have hg : y3.grownBy (y3.alloc (.cells #[.int .i64 0, .int .u32 0, .int .u32 0, .slice none 0 0, .slice none 0 0, .slice none 0 0, .int .i64 0, .int .i64 0, .int .i64 0, .int .i64 0, .int .i64 0, .int .i64 0, .int .i64 0, .int .i64 0, .int .i64 0, .int .i64 0, .int .i64 0, .int .i64 0, .int .i64 0] 29)) (some gs) := grown_of_below hb (Nat.le_refl _) _
            obtain ⟨a9, ha9⟩ : ∃ a, a = y3.heap.size := ⟨_, rfl⟩
            rw [← ha9] at hv
            try rw [← ha9]
            have hx6 : g8 < a9 := by have := hE.n32.lt; omega
            have hx7 : w.heap.size < a9 := by have := h2.lt; omega
            replace ha9 := Lib.hid ha9
            generalize y3.alloc (.cells #[.int .i64 0, .int .u32 0, .int .u32 0, .slice none 0 0, .slice none 0 0, .slice none 0 0, .int .i64 0, .int .i64 0, .int .i64 0, .int .i64 0, .int .i64 0, .int .i64 0, .int .i64 0, .int .i64 0, .int .i64 0, .int .i64 0, .int .i64 0, .int .i64 0, .int .i64 0] 29) = y4 at *
            replace hs := hs.below (hb) hs.lt
            replace hE := hE.grown hg
            replace h2 := h2.grown hg (by simp; omega)
            replace hB := below_own hB hg hB.size hgw
            replace h := byt_grown h hg hB1 hwB
            replace hB1 := Nat.le_trans hB1 hg.size
            replace hG1 := grown_trans hG1 hg
            clear hg hb
            have hs6r := hG1
            refine hKQ.out _ _ hs6r ?_
            clear hKQ KQ
            try simp only [Act.put, List.setIfInBounds_toArray, List.set_cons_zero, List.set_cons_succ]
            refine e_last (by rfl) (by kernel_rfl) (by rfl) (fun KQ hKQ => ?_)
            refine wp_store_blk hv 29 (.tmp 9) (.tmp 25) (by rfl) (by rfl) (by rfl) (by rfl) (by kernel_rfl) (by simp [Value.oneCell']) ?_
            intro w7 hv7 hg7
            have hs7 := hs.grown hg7 (by omega)
            replace h2 := h2.grown hg7 (by simp; omega)
            have hE7 := hE.grownX hg7 (by omega) (by omega) (by omega) (by omega) hx6
            replace hB := below_own hB hg7 hB.size (by omega)
            replace h := byt_grown h hg7 hB1 (by omega)
            replace hB1 := Nat.le_trans hB1 hg7.size
            refine hKQ.out _ _ ?_
            clear hKQ KQ
            try simp only [Act.put]
            refine e_done (by kernel_rfl) ?_ _
            try refine NoPanic.normal ?_
            go_wp2_with fail
            go_meet
            exact ⟨a9, rfl, hx6, hx7, hv7, hs7, hE7, h2, hB, h, hB1⟩
          · skip
            go_simp
            have hb := (Below.refl y2.heap.size y2).alloc (Nat.le_refl _) (.cells #[.int .i64 0, .int .u32 0, .int .u32 0, .slice none 0 0, .slice none 0 0, .slice none 0 0, .int .i64 0, .int .i64 0, .int .i64 0, .int .i64 0, .int .i64 0, .int .i64 0, .int .i64 0, .int .i64 0, .int .i64 0, .int .i64 0, .int .i64 0, .int .i64 0, .int .i64 0] 29)
            have hv : Blk (y2.alloc (.cells #[.int .i64 0, .int .u32 0, .int .u32 0, .slice none 0 0, .slice none 0 0, .slice none 0 0, .int .i64 0, .int .i64 0, .int .i64 0, .int .i64 0, .int .i64 0, .int .i64 0, .int .i64 0, .int .i64 0, .int .i64 0, .int .i64 0, .int .i64 0, .int .i64 0, .int .i64 0] 29)) y2.heap.size 29 #[.int .i64 0, .int .u32 0, .int .u32 0, .slice none 0 0, .slice none 0 0, .slice none 0 0, .int .i64 0, .int .i64 0, .int .i64 0, .int .i64 0, .int .i64 0, .int .i64 0, .int .i64 0, .int .i64 0, .int .i64 0, .int .i64 0, .int .i64 0, .int .i64 0, .int .i64 0] := Blk.new y2 29 #[.int .i64 0, .int .u32 0, .int .u32 0, .slice none 0 0, .slice none 0 0, .slice none 0 0, .int .i64 0, .int .i64 0, .int .i64 0, .int .i64 0, .int .i64 0, .int .i64 0, .int .i64 0, .int .i64 0, .int .i64 0, .int .i64 0, .int .i64 0, .int .i64 0, .int .i64 0]
            have hd9 : (y2.alloc (.cells #[.int .i64 0, .int .u32 0, .int .u32 0, .slice none 0 0, .slice none 0 0, .slice none 0 0, .int .i64 0, .int .i64 0, .int .i64 0, .int .i64 0, .int .i64 0, .int .i64 0, .int .i64 0, .int .i64 0, .int .i64 0, .int .i64 0, .int .i64 0, .int .i64 0, .int .i64 0] 29)).drew = y2.drew.alloc (.cells #[.int .i64 0, .int .u32 0, .int .u32 0, .slice none 0 0, .slice none 0 0, .slice none 0 0, .int .i64 0, .int .i64 0, .int .i64 0, .int .i64 0, .int .i64 0, .int .i64 0, .int .i64 0, .int .i64 0, .int .i64 0, .int .i64 0, .int .i64 0, .int .i64 0, .int .i64 0] 29) := rfl
            try rw [hd9]
            clear hd9
            have hg : y2.grownBy (y2.alloc (.cells #[.int .i64 0, .int .u32 0, .int .u32 0, .slice none 0 0, .slice none 0 0, .slice none 0 0, .int .i64 0, .int .i64 0, .int .i64 0, .int .i64 0, .int .i64 0, .int .i64 0, .int .i64 0, .int .i64 0, .int .i64 0, .int .i64 0, .int .i64 0, .int .i64 0, .int .i64 0] 29)) (some gs) := grown_of_below hb (Nat.le_refl _) _
            obtain ⟨a9, ha9⟩ : ∃ a, a = y2.heap.size := ⟨_, rfl⟩
            rw [← ha9] at hv
            try rw [← ha9]
            have hx6 : g8 < a9 := by have := hE.n32.lt; omega
            have hx7 : w.heap.size < a9 := by have := h2.lt; omega
            replace ha9 := Lib.hid ha9
            generalize y2.alloc (.cells #[.int .i64 0, .int .u32 0, .int .u32 0, .slice none 0 0, .slice none 0 0, .slice none 0 0, .int .i64 0, .int .i64 0, .int .i64 0, .int .i64 0, .int .i64 0, .int .i64 0, .int .i64 0, .int .i64 0, .int .i64 0, .int .i64 0, .int .i64 0, .int .i64 0, .int .i64 0] 29) = y5 at *
            replace hs := hs.below (hb) hs.lt
            replace hE := hE.grown hg
            replace h2 := h2.grown hg (by simp; omega)
            replace hB := below_own hB hg hB.size hgw
            replace h := byt_grown h hg hB1 hwB
            replace hB1 := Nat.le_trans hB1 hg.size
            replace hG1 := grown_trans hG1 hg
            clear hg hb
            have hs7r := hG1
            refine hKQ.out _ _ hs7r ?_
            clear hKQ KQ
            try simp only [Act.put, List.setIfInBounds_toArray, List.set_cons_zero, List.set_cons_succ]
            refine e_callA 5 (by rfl) (by kernel_rfl) (by rfl) (fun KQ hKQ => ?_)
            go_simp
            refine (u32P y5 gs (pS2 l) hs).mono ?_
            rintro e y6 ⟨rfl, hs, hg⟩
            replace hs : Src y6 gs (pS3 l) := hs
            replace hv := hv.grown hg (by simp; omega)
            replace hE := hE.grown hg
            replace h2 := h2.grown hg (by simp; omega)
            replace hB := below_own hB hg hB.size hgw
            replace h := byt_grown h hg hB1 hwB
            replace hB1 := Nat.le_trans hB1 hg.size
            replace hG1 := grown_trans hG1 hg
            clear hg 
            have hs8r := hG1
            refine hKQ.out _ _ hs8r ?_
            clear hKQ KQ
            try simp only [Act.put, List.setIfInBounds_toArray, List.set_cons_zero, List.set_cons_succ]
            (refine e_takeA 6 (by rfl) ?_ (by kernel_rfl) (fun _ _ _ h => h) hs8r ?_ ?_; rotate_left; (focus (intro wq hSw; have hrd : ∀ b' o, b' < w5.heap.size → b' ≠ gs → wq.cell? ⟨b', o, none⟩ = w5.cell? ⟨b', o, none⟩ := (fun b' o h hne => grown_cell hSw h hne); go_simp; try with_reducible rfl; done)); try simp only [Act.put, List.setIfInBounds_toArray, List.set_cons_zero, List.set_cons_succ])
            refine e_last (by rfl) (by kernel_rfl) (by rfl) (fun KQ hKQ => ?_)
            refine wp_store_blk hv 29 (.tmp 9) (.tmp 25) (by rfl) (by rfl) (by rfl) (by rfl) (by kernel_rfl) (by simp [Value.oneCell']) ?_
            intro w7 hv7 hg7
            have hs7 := hs.grown hg7 (by omega)
            replace h2 := h2.grown hg7 (by simp; omega)
            have hE7 := hE.grownX hg7 (by omega) (by omega) (by omega) (by omega) hx6
            replace hB := below_own hB hg7 hB.size (by omega)
            replace h := byt_grown h hg7 hB1 (by omega)
            replace hB1 := Nat.le_trans hB1 hg7.size
            refine hKQ.out _ _ ?_
            clear hKQ KQ
            try simp only [Act.put]
            refine e_done (by kernel_rfl) ?_ _
            try refine NoPanic.normal ?_
            go_wp2_with fail
            go_meet
            exact ⟨a9, rfl, hx6, hx7, hv7, hs7, hE7, h2, hB, h, hB1⟩
        · skip
          go_simp
          have hb := (Below.refl y1.heap.size y1).alloc (Nat.le_refl _) (.cells #[.int .i64 0, .int .u32 0, .int .u32 0, .slice none 0 0, .slice none 0 0, .slice none 0 0, .int .i64 0, .int .i64 0, .int .i64 0, .int .i64 0, .int .i64 0, .int .i64 0, .int .i64 0, .int .i64 0, .int .i64 0, .int .i64 0, .int .i64 0, .int .i64 0, .int .i64 0] 29)
          have hv : Blk (y1.alloc (.cells #[.int .i64 0, .int .u32 0, .int .u32 0, .slice none 0 0, .slice none 0 0, .slice none 0 0, .int .i64 0, .int .i64 0, .int .i64 0, .int .i64 0, .int .i64 0, .int .i64 0, .int .i64 0, .int .i64 0, .int .i64 0, .int .i64 0, .int .i64 0, .int .i64 0, .int .i64 0] 29)) y1.heap.size 29 #[.int .i64 0, .int .u32 0, .int .u32 0, .slice none 0 0, .slice none 0 0, .slice none 0 0, .int .i64 0, .int .i64 0, .int .i64 0, .int .i64 0, .int .i64 0, .int .i64 0, .int .i64 0, .int .i64 0, .int .i64 0, .int .i64 0, .int .i64 0, .int .i64 0, .int .i64 0] := Blk.new y1 29 #[.int .i64 0, .int .u32 0, .int .u32 0, .slice none 0 0, .slice none 0 0, .slice none 0 0, .int .i64 0, .int .i64 0, .int .i64 0, .int .i64 0, .int .i64 0, .int .i64 0, .int .i64 0, .int .i64 0, .int .i64 0, .int .i64 0, .int .i64 0, .int .i64 0, .int .i64 0]
          have hd9 : (y1.alloc (.cells #[.int .i64 0, .int .u32 0, .int .u32 0, .slice none 0 0, .slice none 0 0, .slice none 0 0, .int .i64 0, .int .i64 0, .int .i64 0, .int .i64 0, .int .i64 0, .int .i64 0, .int .i64 0, .int .i64 0, .int .i64 0, .int .i64 0, .int .i64 0, .int .i64 0, .int .i64 0] 29)).drew = y1.drew.alloc (.cells #[.int .i64 0, .int .u32 0, .int .u32 0, .slice none 0 0, .slice none 0 0, .slice none 0 0, .int .i64 0, .int .i64 0, .int .i64 0, .int .i64 0, .int .i64 0, .int .i64 0, .int .i64 0, .int .i64 0, .int .i64 0, .int .i64 0, .int .i64 0, .int .i64 0, .int .i64 0] 29) := rfl
          try rw [hd9]
          clear hd9
          have hg : y1.grownBy (y1.alloc (.cells #[.int .i64 0, .int .u32 0, .int .u32 0, .slice none 0 0, .slice none 0 0, .slice none 0 0, .int .i64 0, .int .i64 0, .int .i64 0, .int .i64 0, .int .i64 0, .int .i64 0, .int .i64 0, .int .i64 0, .int .i64 0, .int .i64 0, .int .i64 0, .int .i64 0, .int .i64 0] 29)) (some gs) := grown_of_below hb (Nat.le_refl _) _
          obtain ⟨a9, ha9⟩ : ∃ a, a = y1.heap.size := ⟨_, rfl⟩
          rw [← ha9] at hv
          try rw [← ha9]
          have hx6 : g8 < a9 := by have := hE.n32.lt; omega
          have hx7 : w.heap.size < a9 := by have := h2.lt; omega
          replace ha9 := Lib.hid ha9
          generalize y1.alloc (.cells #[.int .i64 0, .int .u32 0, .int .u32 0, .slice none 0 0, .slice none 0 0, .slice none 0 0, .int .i64 0, .int .i64 0, .int .i64 0, .int .i64 0, .int .i64 0, .int .i64 0, .int .i64 0, .int .i64 0, .int .i64 0, .int .i64 0, .int .i64 0, .int .i64 0, .int .i64 0] 29) = y7 at *
          replace hs := hs.below (hb) hs.lt
          replace hE := hE.grown hg
          replace h2 := h2.grown hg (by simp; omega)
          replace hB := below_own hB hg hB.size hgw
          replace h := byt_grown h hg hB1 hwB
          replace hB1 := Nat.le_trans hB1 hg.size
          replace hG1 := grown_trans hG1 hg
          clear hg hb
          have hs9r := hG1
          refine hKQ.out _ _ hs9r ?_
          clear hKQ KQ
          try simp only [Act.put, List.setIfInBounds_toArray, List.set_cons_zero, List.set_cons_succ]
          refine e_callA 3 (by rfl) (by kernel_rfl) (by rfl) (fun KQ hKQ => ?_)
          go_simp
          refine (u32P y7 gs (pS1 l) hs).mono ?_
          rintro e y8 ⟨rfl, hs, hg⟩
          replace hs : Src y8 gs (pS2 l) := hs
          replace hv := hv.grown hg (by simp; omega)
          replace hE := hE.grown hg
          replace h2 := h2.grown hg (by simp; omega)
          replace hB := below_own hB hg hB.size hgw
          replace h := byt_grown h hg hB1 hwB
          replace hB1 := Nat.le_trans hB1 hg.size
          replace hG1 := grown_trans hG1 hg
          clear hg 
          have hs10r := hG1
          refine hKQ.out _ _ hs10r ?_
          clear hKQ KQ
          try simp only [Act.put, List.setIfInBounds_toArray, List.set_cons_zero, List.set_cons_succ]
          refine e_callA 5 (by rfl) (by kernel_rfl) (by rfl) (fun KQ hKQ => ?_)
          go_simp
          refine (u32P y8 gs (pS2 l) hs).mono ?_
          rintro e y9 ⟨rfl, hs, hg⟩
          replace hs : Src y9 gs (pS3 l) := hs
          replace hv := hv.grown hg (by simp; omega)
          replace hE := hE.grown hg
          replace h2 := h2.grown hg (by simp; omega)
          replace hB := below_own hB hg hB.size hgw
          replace h := byt_grown h hg hB1 hwB
          replace hB1 := Nat.le_trans hB1 hg.size
          replace hG1 := grown_trans hG1 hg
          clear hg 
          have hs11r := hG1
          refine hKQ.out _ _ hs11r ?_
          clear hKQ KQ
          try simp only [Act.put, List.setIfInBounds_toArray, List.set_cons_zero, List.set_cons_succ]
          (refine e_takeA 6 (by rfl) ?_ (by kernel_rfl) (fun _ _ _ h => h) hs11r ?_ ?_; rotate_left; (focus (intro wq hSw; have hrd : ∀ b' o, b' < w5.heap.size → b' ≠ gs → wq.cell? ⟨b', o, none⟩ = w5.cell? ⟨b', o, none⟩ := (fun b' o h hne => grown_cell hSw h hne); go_simp; try with_reducible rfl; done)); try simp only [Act.put, List.setIfInBounds_toArray, List.set_cons_zero, List.set_cons_succ])
          refine e_last (by rfl) (by kernel_rfl) (by rfl) (fun KQ hKQ => ?_)
          refine wp_store_blk hv 29 (.tmp 9) (.tmp 25) (by rfl) (by rfl) (by rfl) (by rfl) (by kernel_rfl) (by simp [Value.oneCell']) ?_
          intro w7 hv7 hg7
          have hs7 := hs.grown hg7 (by omega)
          replace h2 := h2.grown hg7 (by simp; omega)
          have hE7 := hE.grownX hg7 (by omega) (by omega) (by omega) (by omega) hx6
          replace hB := below_own hB hg7 hB.size (by omega)
          replace h := byt_grown h hg7 hB1 (by omega)
          replace hB1 := Nat.le_trans hB1 hg7.size
          refine hKQ.out _ _ ?_
          clear hKQ KQ
          try simp only [Act.put]
          refine e_done (by kernel_rfl) ?_ _
          try refine NoPanic.normal ?_
          go_wp2_with fail
          go_meet
          exact ⟨a9, rfl, hx6, hx7, hv7, hs7, hE7, h2, hB, h, hB1⟩
      · skip
        go_simp
        have hb := (Below.refl w5.drew.heap.size w5.drew).alloc (Nat.le_refl _) (.cells #[.int .i64 0, .int .u32 0, .int .u32 0, .slice none 0 0, .slice none 0 0, .slice none 0 0, .int .i64 0, .int .i64 0, .int .i64 0, .int .i64 0, .int .i64 0, .int .i64 0, .int .i64 0, .int .i64 0, .int .i64 0, .int .i64 0, .int .i64 0, .int .i64 0, .int .i64 0] 29)
        have hv : Blk (w5.drew.alloc (.cells #[.int .i64 0, .int .u32 0, .int .u32 0, .slice none 0 0, .slice none 0 0, .slice none 0 0, .int .i64 0, .int .i64 0, .int .i64 0, .int .i64 0, .int .i64 0, .int .i64 0, .int .i64 0, .int .i64 0, .int .i64 0, .int .i64 0, .int .i64 0, .int .i64 0, .int .i64 0] 29)) w5.heap.size 29 #[.int .i64 0, .int .u32 0, .int .u32 0, .slice none 0 0, .slice none 0 0, .slice none 0 0, .int .i64 0, .int .i64 0, .int .i64 0, .int .i64 0, .int .i64 0, .int .i64 0, .int .i64 0, .int .i64 0, .int .i64 0, .int .i64 0, .int .i64 0, .int .i64 0, .int .i64 0] := Blk.new w5.drew 29 #[.int .i64 0, .int .u32 0, .int .u32 0, .slice none 0 0, .slice none 0 0, .slice none 0 0, .int .i64 0, .int .i64 0, .int .i64 0, .int .i64 0, .int .i64 0, .int .i64 0, .int .i64 0, .int .i64 0, .int .i64 0, .int .i64 0, .int .i64 0, .int .i64 0, .int .i64 0]
        have hd9 : (w5.alloc (.cells #[.int .i64 0, .int .u32 0, .int .u32 0, .slice none 0 0, .slice none 0 0, .slice none 0 0, .int .i64 0, .int .i64 0, .int .i64 0, .int .i64 0, .int .i64 0, .int .i64 0, .int .i64 0, .int .i64 0, .int .i64 0, .int .i64 0, .int .i64 0, .int .i64 0, .int .i64 0] 29)).drew = w5.drew.alloc (.cells #[.int .i64 0, .int .u32 0, .int .u32 0, .slice none 0 0, .slice none 0 0, .slice none 0 0, .int .i64 0, .int .i64 0, .int .i64 0, .int .i64 0, .int .i64 0, .int .i64 0, .int .i64 0, .int .i64 0, .int .i64 0, .int .i64 0, .int .i64 0, .int .i64 0, .int .i64 0] 29) := rfl
        try rw [hd9]
        clear hd9
        have hg : w5.drew.grownBy (w5.drew.alloc (.cells #[.int .i64 0, .int .u32 0, .int .u32 0, .slice none 0 0, .slice none 0 0, .slice none 0 0, .int .i64 0, .int .i64 0, .int .i64 0, .int .i64 0, .int .i64 0, .int .i64 0, .int .i64 0, .int .i64 0, .int .i64 0, .int .i64 0, .int .i64 0, .int .i64 0, .int .i64 0] 29)) (some gs) := grown_of_below hb (Nat.le_refl _) _
        obtain ⟨a9, ha9⟩ : ∃ a, a = w5.heap.size := ⟨_, rfl⟩
        rw [← ha9] at hv
        try rw [← ha9]
        have hx6 : g8 < a9 := by have := hE.n32.lt; omega
        have hx7 : w.heap.size < a9 := by have := h2.lt; omega
        replace ha9 := Lib.hid ha9
        generalize w5.drew.alloc (.cells #[.int .i64 0, .int .u32 0, .int .u32 0, .slice none 0 0, .slice none 0 0, .slice none 0 0, .int .i64 0, .int .i64 0, .int .i64 0, .int .i64 0, .int .i64 0, .int .i64 0, .int .i64 0, .int .i64 0, .int .i64 0, .int .i64 0, .int .i64 0, .int .i64 0, .int .i64 0] 29) = y10 at *
        replace hs := hs.below ((Below.refl w5.heap.size w5).drew.trans hb) hs.lt
        replace hg : w5.grownBy y10 (some gs) := grown_trans (grown_drew (grown_refl _ _)) hg
        replace hE := hE.grown hg
        replace h2 := h2.grown hg (by simp; omega)
        replace hB := below_own hB hg hB.size hgw
        replace h := byt_grown h hg hB1 hwB
        replace hB1 := Nat.le_trans hB1 hg.size
        replace hG1 := grown_trans hG1 hg
        clear hg hb
        have hs12r := hG1
        refine hKQ.out _ _ hs12r ?_
        clear hKQ KQ
        try simp only [Act.put, List.setIfInBounds_toArray, List.set_cons_zero, List.set_cons_succ]
        refine e_callA 1 (by rfl) (by kernel_rfl) (by rfl) (fun KQ hKQ => ?_)
        go_simp
        refine (u16P y10 gs (pS0 l) hs).mono ?_
        rintro e y11 ⟨rfl, hs, hg⟩
        replace hs : Src y11 gs (pS1 l) := hs
        replace hv := hv.grown hg (by simp; omega)
        replace hE := hE.grown hg
        replace h2 := h2.grown hg (by simp; omega)
        replace hB := below_own hB hg hB.size hgw
        replace h := byt_grown h hg hB1 hwB
        replace hB1 := Nat.le_trans hB1 hg.size
        replace hG1 := grown_trans hG1 hg
        clear hg 
        have hs13r := hG1
        refine hKQ.out _ _ hs13r ?_
        clear hKQ KQ
        try simp only [Act.put, List.setIfInBounds_toArray, List.set_cons_zero, List.set_cons_succ]
        refine e_callA 3 (by rfl) (by kernel_rfl) (by rfl) (fun KQ hKQ => ?_)
        go_simp
        refine (u32P y11 gs (pS1 l) hs).mono ?_
        rintro e y12 ⟨rfl, hs, hg⟩
        replace hs : Src y12 gs (pS2 l) := hs
        replace hv := hv.grown hg (by simp; omega)
        replace hE := hE.grown hg
        replace h2 := h2.grown hg (by simp; omega)
        replace hB := below_own hB hg hB.size hgw
        replace h := byt_grown h hg hB1 hwB
        replace hB1 := Nat.le_trans hB1 hg.size
        replace hG1 := grown_trans hG1 hg
        clear hg 
        have hs14r := hG1
        refine hKQ.out _ _ hs14r ?_
        clear hKQ KQ
        try simp only [Act.put, List.setIfInBounds_toArray, List.set_cons_zero, List.set_cons_succ]
        refine e_callA 5 (by rfl) (by kernel_rfl) (by rfl) (fun KQ hKQ => ?_)
        go_simp
        refine (u32P y12 gs (pS2 l) hs).mono ?_
        rintro e y13 ⟨rfl, hs, hg⟩
        replace hs : Src y13 gs (pS3 l) := hs
        replace hv := hv.grown hg (by simp; omega)
        replace hE := hE.grown hg
        replace h2 := h2.grown hg (by simp; omega)
        replace hB := below_own hB hg hB.size hgw
        replace h := byt_grown h hg hB1 hwB
        replace hB1 := Nat.le_trans hB1 hg.size
        replace hG1 := grown_trans hG1 hg
        clear hg 
        have hs15r := hG1
        refine hKQ.out _ _ hs15r ?_
        clear hKQ KQ
        try simp only [Act.put, List.setIfInBounds_toArray, List.set_cons_zero, List.set_cons_succ]
        (refine e_takeA 6 (by rfl) ?_ (by kernel_rfl) (fun _ _ _ h => h) hs15r ?_ ?_; rotate_left; (focus (intro wq hSw; have hrd : ∀ b' o, b' < w5.heap.size → b' ≠ gs → wq.cell? ⟨b', o, none⟩ = w5.cell? ⟨b', o, none⟩ := (fun b' o h hne => grown_cell hSw h hne); go_simp; try with_reducible rfl; done)); try simp only [Act.put, List.setIfInBounds_toArray, List.set_cons_zero, List.set_cons_succ])
        refine e_last (by rfl) (by kernel_rfl) (by rfl) (fun KQ hKQ => ?_)
        refine wp_store_blk hv 29 (.tmp 9) (.tmp 25) (by rfl) (by rfl) (by rfl) (by rfl) (by kernel_rfl) (by simp [Value.oneCell']) ?_
        intro w7 hv7 hg7
        have hs7 := hs.grown hg7 (by omega)
        replace h2 := h2.grown hg7 (by simp; omega)
        have hE7 := hE.grownX hg7 (by omega) (by omega) (by omega) (by omega) hx6
        replace hB := below_own hB hg7 hB.size (by omega)
        replace h := byt_grown h hg7 hB1 (by omega)
        replace hB1 := Nat.le_trans hB1 hg7.size
        refine hKQ.out _ _ ?_
        clear hKQ KQ
        try simp only [Act.put]
        refine e_done (by kernel_rfl) ?_ _
        try refine NoPanic.normal ?_
        go_wp2_with fail
        go_meet
        exact ⟨a9, rfl, hx6, hx7, hv7, hs7, hE7, h2, hB, h, hB1⟩
    case rest =>
      clear hs hE h2 hB h hB1 hlt8
      obtain ⟨a9, rfl, hx6, hx7, hv, hs, hE, h2, hB, h, hB1⟩ := hcut
      have hx9 : gs < a9 := by have := hE.ne; omega
      have hwa : w.heap.size ≤ a9 := by omega
      have q9 := hE.ne
      generalize hwc0 : wc = m0 at *
      clear hwc0
      have s4 := hE.s4.cellv 0 (v := .pointer (some ⟨gs, 0, none⟩)) rfl
      have l4 := hE.s4.lt
      go_wp2_with fail
      refine (manyP_any m0 gs g4 g5 g6 g7 g8 (pS3 l) hE hs).mono ?_
      clear s4 l4 hs
      rintro e m1 ⟨v, rfl, hr, hs, hg⟩
      replace hs : Src m1 gs (pS4 l) := hs
      obtain ⟨L0, hL0⟩ : ∃ L, L = (listP peerP (pS3 l)).1 := ⟨_, rfl⟩
      rw [← hL0] at hr
      replace hL0 := Lib.hid hL0
      obtain ⟨n0, hn0⟩ : ∃ n, n = L0.length := ⟨_, rfl⟩
      obtain ⟨A0, c0, rfl, hc0, hm0, hS0⟩ := hr.seen (Nat.le_refl _)
      rw [← hn0] at hc0 hS0 ⊢
      replace hn0 := Lib.hid hn0
      clear hr
      have hlv := hv.lt
      replace hS0 := hS0.more (S' := fun b => a9 < b ∧ b < m1.heap.size) fun b q => ⟨Nat.lt_of_lt_of_le hlv q.1, q.2⟩
      replace hv := hv.grown hg (by simp; omega)
      clear hlv
      replace hB := below_own hB hg hB.size hgw
      replace h := byt_grown h hg hB1 hwB
      replace hB1 := Nat.le_trans hB1 hg.size
      replace h2 := h2.grown hg (by simp; omega)
      replace hE := hE.grown hg
      clear hg
      have z0 := hv.cellv 3 (v := .slice none 0 0) rfl
      obtain ⟨so1, so2⟩ := blk_store hv 3 (.slice A0 n0 c0)
      have f0 := hv.frozen 3
      have l0 := hv.lt
      go_upto_region 6 with (fail)
      clear f0 l0 z0
      generalize m1.setCell ⟨a9, 3, none⟩ (.slice A0 n0 c0) = m2 at *
      replace hv : Blk m2 a9 29 #[.int .i64 (numV (pS0 l) 2), .int .u32 (numV (pS1 l) 4), .int .u32 (numV (pS2 l) 4), .slice A0 n0 c0, .slice none 0 0, .slice none 0 0, .int .i64 0, .int .i64 0, .int .i64 0, .int .i64 0, .int .i64 0, .int .i64 0, .int .i64 0, .int .i64 0, .int .i64 0, .int .i64 0, .int .i64 0, .int .i64 0, .int .i64 0] := so1
      clear so1
      replace hB := below_own hB so2 hB.size hwa
      replace h := byt_grown h so2 hB1 (by omega)
      replace hB1 := Nat.le_trans hB1 so2.size
      replace h2 := h2.grown so2 (by simp; omega)
      replace hS0 := seen_step hS0 so2 (Nat.le_refl _)
      replace hE := hE.grownX so2 (by omega) (by omega) (by omega) (by omega) (by omega)
      replace hs := hs.grown so2 hx9
      clear so2
      have s4 := hE.s4.cellv 0 (v := .pointer (some ⟨gs, 0, none⟩)) rfl
      have l4 := hE.s4.lt
      go_wp2_with fail
      refine (manyV_any m2 gs g4 g5 g6 g7 g8 (pS4 l) hE hs).mono ?_
      clear s4 l4 hs
      rintro e m3 ⟨v, L1, rfl, hL1, hr, hs, hg⟩
      replace hs : Src m3 gs (pS5 l) := hs
      replace hL1 := Lib.hid hL1
      obtain ⟨n1, hn1⟩ : ∃ n, n = L1.length := ⟨_, rfl⟩
      obtain ⟨A1, c1, rfl, hc1, hm1, hS1⟩ := hr.seen (Nat.le_refl _)
      rw [← hn1] at hc1 hS1 ⊢
      replace hn1 := Lib.hid hn1
      clear hr
      have hlv := hv.lt
      replace hS1 := hS1.more (S' := fun b => a9 < b ∧ b < m3.heap.size) fun b q => ⟨Nat.lt_of_lt_of_le hlv q.1, q.2⟩
      replace hv := hv.grown hg (by simp; omega)
      clear hlv
      replace hB := below_own hB hg hB.size hgw
      replace h := byt_grown h hg hB1 hwB
      replace hB1 := Nat.le_trans hB1 hg.size
      replace h2 := h2.grown hg (by simp; omega)
      replace hS0 := seen_step hS0 hg (by omega)
      replace hE := hE.grown hg
      clear hg
      have z0 := hv.cellv 4 (v := .slice none 0 0) rfl
      obtain ⟨so1, so2⟩ := blk_store hv 4 (.slice A1 n1 c1)
      have f0 := hv.frozen 4
      have l0 := hv.lt
      go_upto_region 7 with (fail)
      clear f0 l0 z0
      generalize m3.setCell ⟨a9, 4, none⟩ (.slice A1 n1 c1) = m4 at *
      replace hv : Blk m4 a9 29 #[.int .i64 (numV (pS0 l) 2), .int .u32 (numV (pS1 l) 4), .int .u32 (numV (pS2 l) 4), .slice A0 n0 c0, .slice A1 n1 c1, .slice none 0 0, .int .i64 0, .int .i64 0, .int .i64 0, .int .i64 0, .int .i64 0, .int .i64 0, .int .i64 0, .int .i64 0, .int .i64 0, .int .i64 0, .int .i64 0, .int .i64 0, .int .i64 0] := so1
      clear so1
      replace hB := below_own hB so2 hB.size hwa
      replace h := byt_grown h so2 hB1 (by omega)
      replace hB1 := Nat.le_trans hB1 so2.size
      replace h2 := h2.grown so2 (by simp; omega)
      replace hS0 := seen_step hS0 so2 (Nat.le_refl _)
      replace hS1 := seen_step hS1 so2 (Nat.le_refl _)
      replace hE := hE.grownX so2 (by omega) (by omega) (by omega) (by omega) (by omega)
      replace hs := hs.grown so2 hx9
      clear so2
      have s4 := hE.s4.cellv 0 (v := .pointer (some ⟨gs, 0, none⟩)) rfl
      have l4 := hE.s4.lt
      go_wp2_with fail
      refine (manyS_any m4 gs g4 g5 g6 g7 g8 (pS5 l) hE hs).mono ?_
      clear s4 l4 hs
      rintro e m5 ⟨v, rfl, hr, hs, hg⟩
      replace hs : Src m5 gs (pS6 l) := hs
      obtain ⟨L2, hL2⟩ : ∃ L, L = (listP siteP (pS5 l)).1 := ⟨_, rfl⟩
      rw [← hL2] at hr
      replace hL2 := Lib.hid hL2
      obtain ⟨n2, hn2⟩ : ∃ n, n = L2.length := ⟨_, rfl⟩
      obtain ⟨A2, c2, rfl, hc2, hm2, hS2⟩ := hr.seen (Nat.le_refl _)
      rw [← hn2] at hc2 hS2 ⊢
      replace hn2 := Lib.hid hn2
      clear hr
      have hlv := hv.lt
      replace hS2 := hS2.more (S' := fun b => a9 < b ∧ b < m5.heap.size) fun b q => ⟨Nat.lt_of_lt_of_le hlv q.1, q.2⟩
      replace hv := hv.grown hg (by simp; omega)
      clear hlv
      replace hB := below_own hB hg hB.size hgw
      replace h := byt_grown h hg hB1 hwB
      replace hB1 := Nat.le_trans hB1 hg.size
      replace h2 := h2.grown hg (by simp; omega)
      replace hS0 := seen_step hS0 hg (by omega)
      replace hS1 := seen_step hS1 hg (by omega)
      replace hE := hE.grown hg
      clear hg
      have z0 := hv.cellv 5 (v := .slice none 0 0) rfl
      obtain ⟨so1, so2⟩ := blk_store hv 5 (.slice A2 n2 c2)
      have f0 := hv.frozen 5
      have l0 := hv.lt
      go_upto_region 8 with (fail)
      clear f0 l0 z0
      generalize m5.setCell ⟨a9, 5, none⟩ (.slice A2 n2 c2) = m6 at *
      replace hv : Blk m6 a9 29 #[.int .i64 (numV (pS0 l) 2), .int .u32 (numV (pS1 l) 4), .int .u32 (numV (pS2 l) 4), .slice A0 n0 c0, .slice A1 n1 c1, .slice A2 n2 c2, .int .i64 0, .int .i64 0, .int .i64 0, .int .i64 0, .int .i64 0, .int .i64 0, .int .i64 0, .int .i64 0, .int .i64 0, .int .i64 0, .int .i64 0, .int .i64 0, .int .i64 0] := so1
      clear so1
      replace hB := below_own hB so2 hB.size hwa
      replace h := byt_grown h so2 hB1 (by omega)
      replace hB1 := Nat.le_trans hB1 so2.size
      replace h2 := h2.grown so2 (by simp; omega)
      replace hS0 := seen_step hS0 so2 (Nat.le_refl _)
      replace hS1 := seen_step hS1 so2 (Nat.le_refl _)
      replace hS2 := seen_step hS2 so2 (Nat.le_refl _)
      replace hE := hE.grownX so2 (by omega) (by omega) (by omega) (by omega) (by omega)
      replace hs := hs.grown so2 hx9
      clear so2
      go_upto_region 8 with (fail)
      -- region 8: 0 1C 2 3C 4 5M 6 7M
      try refine wp_region_noPanic ?_
      have hs16r : (fun w' => PEnv w' gs g4 g5 g6 g7 g8) m6.drew := hE.below (Below.refl _ _).drew
      refine wp_region_held_drew (S := fun w' => PEnv w' gs g4 g5 g6 g7 g8) (by kernel_rfl) hs16r (fun _ => ?_)
      (refine held_takeA 0 (by rfl) ?_ (by kernel_rfl) (fun _ _ _ h => h) hs16r ?_ ?_; rotate_left; (focus (intro wq hSw; have hrd := hSw; have c_n8 := hSw.n8.cellv 0 (v := .func (.func 17) #[.pointer (some ⟨gs, 0, none⟩)] #[]) rfl; have l_n8 := hSw.n8.lt; go_simp; try with_reducible rfl; done)); try simp only [Act.put, List.setIfInBounds_toArray, List.set_cons_zero, List.set_cons_succ])
      (refine held_takeA 2 (by rfl) ?_ (by kernel_rfl) (fun _ _ _ h => h) hs16r ?_ ?_; rotate_left; (focus (intro wq hSw; have hrd := hSw; have c_n8 := hSw.n8.cellv 0 (v := .func (.func 17) #[.pointer (some ⟨gs, 0, none⟩)] #[]) rfl; have l_n8 := hSw.n8.lt; go_simp; try with_reducible rfl; done)); try simp only [Act.put, List.setIfInBounds_toArray, List.set_cons_zero, List.set_cons_succ])
      refine held_callA 1 (by rfl) (by kernel_rfl) (by rfl) (fun KQ hKQ => ?_)
      go_simp
      refine (u8P m6.drew gs (pS6 l) hs.drew).mono ?_
      clear hs
      rintro e m7 ⟨rfl, hs, hg⟩
      replace hs : Src m7 gs (pS7 l) := hs
      replace hg : m6.grownBy m7 (some gs) := grown_trans (grown_drew (grown_refl _ _)) hg
      replace hv := hv.grown hg (by simp; omega)
      replace hB := below_own hB hg hB.size hgw
      replace h := byt_grown h hg hB1 hwB
      replace hB1 := Nat.le_trans hB1 hg.size
      replace h2 := h2.grown hg (by simp; omega)
      replace hS0 := seen_step hS0 hg (by omega)
      replace hS1 := seen_step hS1 hg (by omega)
      replace hS2 := seen_step hS2 hg (by omega)
      replace hE := hE.grown hg
      have hs17r := hE
      refine hKQ.out _ _ hs17r ?_
      clear hKQ KQ
      try simp only [Act.put, List.setIfInBounds_toArray, List.set_cons_zero, List.set_cons_succ]
      (refine held_takeA 4 (by rfl) ?_ (by kernel_rfl) (fun _ _ _ h => h) hs17r ?_ ?_; rotate_left; (focus (intro wq hSw; have hrd := hSw; have c_n8 := hSw.n8.cellv 0 (v := .func (.func 17) #[.pointer (some ⟨gs, 0, none⟩)] #[]) rfl; have l_n8 := hSw.n8.lt; go_simp; try with_reducible rfl; done)); try simp only [Act.put, List.setIfInBounds_toArray, List.set_cons_zero, List.set_cons_succ])
      clear hg
      refine held_callA 3 (by rfl) (by kernel_rfl) (by rfl) (fun KQ hKQ => ?_)
      go_simp
      refine (u8P m7 gs (pS7 l) hs).mono ?_
      clear hs
      rintro e m8 ⟨rfl, hs, hg⟩
      replace hs : Src m8 gs (pS8 l) := hs
      replace hv := hv.grown hg (by simp; omega)
      replace hB := below_own hB hg hB.size hgw
      replace h := byt_grown h hg hB1 hwB
      replace hB1 := Nat.le_trans hB1 hg.size
      replace h2 := h2.grown hg (by simp; omega)
      replace hS0 := seen_step hS0 hg (by omega)
      replace hS1 := seen_step hS1 hg (by omega)
      replace hS2 := seen_step hS2 hg (by omega)
      replace hE := hE.grown hg
      have hs18r := hE
      refine hKQ.out _ _ hs18r ?_
      clear hKQ KQ
      try simp only [Act.put, List.setIfInBounds_toArray, List.set_cons_zero, List.set_cons_succ]
      clear hg
      have z0 := hv.cellv 6 (v := .int .i64 0) rfl
      have f0 := hv.frozen 6
      have l0 := hv.lt
      refine held_callA 5 (by rfl) (by kernel_rfl) (by rfl) (fun KQ hKQ => ?_)
      go_simp
      obtain ⟨so1, so2⟩ := blk_store hv 6 (.int .i64 (numV (pS6 l) 1))
      clear f0 l0 z0
      generalize m8.setCell ⟨a9, 6, none⟩ (.int .i64 (numV (pS6 l) 1)) = m9 at *
      replace hv : Blk m9 a9 29 #[.int .i64 (numV (pS0 l) 2), .int .u32 (numV (pS1 l) 4), .int .u32 (numV (pS2 l) 4), .slice A0 n0 c0, .slice A1 n1 c1, .slice A2 n2 c2, .int .i64 (numV (pS6 l) 1), .int .i64 0, .int .i64 0, .int .i64 0, .int .i64 0, .int .i64 0, .int .i64 0, .int .i64 0, .int .i64 0, .int .i64 0, .int .i64 0, .int .i64 0, .int .i64 0] := so1
      clear so1
      replace hB := below_own hB so2 hB.size hwa
      replace h := byt_grown h so2 hB1 (by omega)
      replace hB1 := Nat.le_trans hB1 so2.size
      replace h2 := h2.grown so2 (by simp; omega)
      replace hS0 := seen_step hS0 so2 (Nat.le_refl _)
      replace hS1 := seen_step hS1 so2 (Nat.le_refl _)
      replace hS2 := seen_step hS2 so2 (Nat.le_refl _)
      replace hE := hE.grownX so2 (by omega) (by omega) (by omega) (by omega) (by omega)
      replace hs := hs.grown so2 hx9
      have hs19r := hE
      refine hKQ.out _ _ hs19r ?_
      clear hKQ KQ
      try simp only [Act.put]
      (refine held_takeA 6 (by rfl) ?_ (by kernel_rfl) (fun _ _ _ h => h) hs19r ?_ ?_; rotate_left; (focus (intro wq hSw; have hrd := hSw; have c_n8 := hSw.n8.cellv 0 (v := .func (.func 17) #[.pointer (some ⟨gs, 0, none⟩)] #[]) rfl; have l_n8 := hSw.n8.lt; go_simp; try with_reducible rfl; done)); try simp only [Act.put, List.setIfInBounds_toArray, List.set_cons_zero, List.set_cons_succ])
      clear so2
      have z0 := hv.cellv 7 (v := .int .i64 0) rfl
      have f0 := hv.frozen 7
      have l0 := hv.lt
      refine held_callA 7 (by rfl) (by kernel_rfl) (by rfl) (fun KQ hKQ => ?_)
      go_simp
      obtain ⟨so1, so2⟩ := blk_store hv 7 (.int .i64 (numV (pS7 l) 1))
      clear f0 l0 z0
      generalize m9.setCell ⟨a9, 7, none⟩ (.int .i64 (numV (pS7 l) 1)) = m10 at *
      replace hv : Blk m10 a9 29 #[.int .i64 (numV (pS0 l) 2), .int .u32 (numV (pS1 l) 4), .int .u32 (numV (pS2 l) 4), .slice A0 n0 c0, .slice A1 n1 c1, .slice A2 n2 c2, .int .i64 (numV (pS6 l) 1), .int .i64 (numV (pS7 l) 1), .int .i64 0, .int .i64 0, .int .i64 0, .int .i64 0, .int .i64 0, .int .i64 0, .int .i64 0, .int .i64 0, .int .i64 0, .int .i64 0, .int .i64 0] := so1
      clear so1
      replace hB := below_own hB so2 hB.size hwa
      replace h := byt_grown h so2 hB1 (by omega)
      replace hB1 := Nat.le_trans hB1 so2.size
      replace h2 := h2.grown so2 (by simp; omega)
      replace hS0 := seen_step hS0 so2 (Nat.le_refl _)
      replace hS1 := seen_step hS1 so2 (Nat.le_refl _)
      replace hS2 := seen_step hS2 so2 (Nat.le_refl _)
      replace hE := hE.grownX so2 (by omega) (by omega) (by omega) (by omega) (by omega)
      replace hs := hs.grown so2 hx9
      have hs20r := hE
      refine hKQ.out _ _ hs20r ?_
      clear hKQ KQ
      try simp only [Act.put]
      clear so2
      refine wpAnyH_done (by kernel_rfl) ?_ _
      try refine NoPanic.normal ?_
      go_upto_region 9 with (fail)
      -- region 9: 0 1C 2 3C 4 5C 6 7M 8 9M 10 11M
      try refine wp_region_noPanic ?_
      have hs21r : (fun w' => PEnv w' gs g4 g5 g6 g7 g8) m10.drew := hE.below (Below.refl _ _).drew
      refine wp_region_held_drew (S := fun w' => PEnv w' gs g4 g5 g6 g7 g8) (by kernel_rfl) hs21r (fun _ => ?_)
      (refine held_takeA 0 (by rfl) ?_ (by kernel_rfl) (fun _ _ _ h => h) hs21r ?_ ?_; rotate_left; (focus (intro wq hSw; have hrd := hSw; have c_n16 := hSw.n16.cellv 0 (v := .func (.func 18) #[.pointer (some ⟨gs, 0, none⟩)] #[]) rfl; have l_n16 := hSw.n16.lt; go_simp; try with_reducible rfl; done)); try simp only [Act.put, List.setIfInBounds_toArray, List.set_cons_zero, List.set_cons_succ])
      (refine held_takeA 2 (by rfl) ?_ (by kernel_rfl) (fun _ _ _ h => h) hs21r ?_ ?_; rotate_left; (focus (intro wq hSw; have hrd := hSw; have c_n16 := hSw.n16.cellv 0 (v := .func (.func 18) #[.pointer (some ⟨gs, 0, none⟩)] #[]) rfl; have l_n16 := hSw.n16.lt; go_simp; try with_reducible rfl; done)); try simp only [Act.put, List.setIfInBounds_toArray, List.set_cons_zero, List.set_cons_succ])
      (refine held_takeA 4 (by rfl) ?_ (by kernel_rfl) (fun _ _ _ h => h) hs21r ?_ ?_; rotate_left; (focus (intro wq hSw; have hrd := hSw; have c_n16 := hSw.n16.cellv 0 (v := .func (.func 18) #[.pointer (some ⟨gs, 0, none⟩)] #[]) rfl; have l_n16 := hSw.n16.lt; go_simp; try with_reducible rfl; done)); try simp only [Act.put, List.setIfInBounds_toArray, List.set_cons_zero, List.set_cons_succ])
      refine held_callA 1 (by rfl) (by kernel_rfl) (by rfl) (fun KQ hKQ => ?_)
      go_simp
      refine (u16P m10.drew gs (pS8 l) hs.drew).mono ?_
      clear hs
      rintro e m11 ⟨rfl, hs, hg⟩
      replace hs : Src m11 gs (pS9 l) := hs
      replace hg : m10.grownBy m11 (some gs) := grown_trans (grown_drew (grown_refl _ _)) hg
      replace hv := hv.grown hg (by simp; omega)
      replace hB := below_own hB hg hB.size hgw
      replace h := byt_grown h hg hB1 hwB
      replace hB1 := Nat.le_trans hB1 hg.size
      replace h2 := h2.grown hg (by simp; omega)
      replace hS0 := seen_step hS0 hg (by omega)
      replace hS1 := seen_step hS1 hg (by omega)
      replace hS2 := seen_step hS2 hg (by omega)
      replace hE := hE.grown hg
      have hs22r := hE
      refine hKQ.out _ _ hs22r ?_
      clear hKQ KQ
      try simp only [Act.put, List.setIfInBounds_toArray, List.set_cons_zero, List.set_cons_succ]
      (refine held_takeA 6 (by rfl) ?_ (by kernel_rfl) (fun _ _ _ h => h) hs22r ?_ ?_; rotate_left; (focus (intro wq hSw; have hrd := hSw; have c_n16 := hSw.n16.cellv 0 (v := .func (.func 18) #[.pointer (some ⟨gs, 0, none⟩)] #[]) rfl; have l_n16 := hSw.n16.lt; go_simp; try with_reducible rfl; done)); try simp only [Act.put, List.setIfInBounds_toArray, List.set_cons_zero, List.set_cons_succ])
      clear hg
      refine held_callA 3 (by rfl) (by kernel_rfl) (by rfl) (fun KQ hKQ => ?_)
      go_simp
      refine (u16P m11 gs (pS9 l) hs).mono ?_
      clear hs
      rintro e m12 ⟨rfl, hs, hg⟩
      replace hs : Src m12 gs (pS10 l) := hs
      replace hv := hv.grown hg (by simp; omega)
      replace hB := below_own hB hg hB.size hgw
      replace h := byt_grown h hg hB1 hwB
      replace hB1 := Nat.le_trans hB1 hg.size
      replace h2 := h2.grown hg (by simp; omega)
      replace hS0 := seen_step hS0 hg (by omega)
      replace hS1 := seen_step hS1 hg (by omega)
      replace hS2 := seen_step hS2 hg (by omega)
      replace hE := hE.grown hg
      have hs23r := hE
      refine hKQ.out _ _ hs23r ?_
      clear hKQ KQ
      try simp only [Act.put, List.setIfInBounds_toArray, List.set_cons_zero, List.set_cons_succ]
      clear hg
      refine held_callA 5 (by rfl) (by kernel_rfl) (by rfl) (fun KQ hKQ => ?_)
      go_simp
      refine (u16P m12 gs (pS10 l) hs).mono ?_
      clear hs
      rintro e m13 ⟨rfl, hs, hg⟩
      replace hs : Src m13 gs (pS11 l) := hs
      replace hv := hv.grown hg (by simp; omega)
      replace hB := below_own hB hg hB.size hgw
      replace h := byt_grown h hg hB1 hwB
      replace hB1 := Nat.le_trans hB1 hg.size
      replace h2 := h2.grown hg (by simp; omega)
      replace hS0 := seen_step hS0 hg (by omega)
      replace hS1 := seen_step hS1 hg (by omega)
      replace hS2 := seen_step hS2 hg (by omega)
      replace hE := hE.grown hg
      have hs24r := hE
      refine hKQ.out _ _ hs24r ?_
      clear hKQ KQ
      try simp only [Act.put, List.setIfInBounds_toArray, List.set_cons_zero, List.set_cons_succ]
      clear hg
      have z0 := hv.cellv 8 (v := .int .i64 0) rfl
      have f0 := hv.frozen 8
      have l0 := hv.lt
      refine held_callA 7 (by rfl) (by kernel_rfl) (by rfl) (fun KQ hKQ => ?_)
      go_simp
      obtain ⟨so1, so2⟩ := blk_store hv 8 (.int .i64 (numV (pS8 l) 2))
      clear f0 l0 z0
      generalize m13.setCell ⟨a9, 8, none⟩ (.int .i64 (numV (pS8 l) 2)) = m14 at *
      replace hv : Blk m14 a9 29 #[.int .i64 (numV (pS0 l) 2), .int .u32 (numV (pS1 l) 4), .int .u32 (numV (pS2 l) 4), .slice A0 n0 c0, .slice A1 n1 c1, .slice A2 n2 c2, .int .i64 (numV (pS6 l) 1), .int .i64 (numV (pS7 l) 1), .int .i64 (numV (pS8 l) 2), .int .i64 0, .int .i64 0, .int .i64 0, .int .i64 0, .int .i64 0, .int .i64 0, .int .i64 0, .int .i64 0, .int .i64 0, .int .i64 0] := so1
      clear so1
      replace hB := below_own hB so2 hB.size hwa
      replace h := byt_grown h so2 hB1 (by omega)
      replace hB1 := Nat.le_trans hB1 so2.size
      replace h2 := h2.grown so2 (by simp; omega)
      replace hS0 := seen_step hS0 so2 (Nat.le_refl _)
      replace hS1 := seen_step hS1 so2 (Nat.le_refl _)
      replace hS2 := seen_step hS2 so2 (Nat.le_refl _)
      replace hE := hE.grownX so2 (by omega) (by omega) (by omega) (by omega) (by omega)
      replace hs := hs.grown so2 hx9
      have hs25r := hE
      refine hKQ.out _ _ hs25r ?_
      clear hKQ KQ
      try simp only [Act.put]
      (refine held_takeA 8 (by rfl) ?_ (by kernel_rfl) (fun _ _ _ h => h) hs25r ?_ ?_; rotate_left; (focus (intro wq hSw; have hrd := hSw; have c_n16 := hSw.n16.cellv 0 (v := .func (.func 18) #[.pointer (some ⟨gs, 0, none⟩)] #[]) rfl; have l_n16 := hSw.n16.lt; go_simp; try with_reducible rfl; done)); try simp only [Act.put, List.setIfInBounds_toArray, List.set_cons_zero, List.set_cons_succ])
      clear so2
      have z0 := hv.cellv 9 (v := .int .i64 0) rfl
      have f0 := hv.frozen 9
      have l0 := hv.lt
      refine held_callA 9 (by rfl) (by kernel_rfl) (by rfl) (fun KQ hKQ => ?_)
      go_simp
      obtain ⟨so1, so2⟩ := blk_store hv 9 (.int .i64 (numV (pS9 l) 2))
      clear f0 l0 z0
      generalize m14.setCell ⟨a9, 9, none⟩ (.int .i64 (numV (pS9 l) 2)) = m15 at *
      replace hv : Blk m15 a9 29 #[.int .i64 (numV (pS0 l) 2), .int .u32 (numV (pS1 l) 4), .int .u32 (numV (pS2 l) 4), .slice A0 n0 c0, .slice A1 n1 c1, .slice A2 n2 c2, .int .i64 (numV (pS6 l) 1), .int .i64 (numV (pS7 l) 1), .int .i64 (numV (pS8 l) 2), .int .i64 (numV (pS9 l) 2), .int .i64 0, .int .i64 0, .int .i64 0, .int .i64 0, .int .i64 0, .int .i64 0, .int .i64 0, .int .i64 0, .int .i64 0] := so1
      clear so1
      replace hB := below_own hB so2 hB.size hwa
      replace h := byt_grown h so2 hB1 (by omega)
      replace hB1 := Nat.le_trans hB1 so2.size
      replace h2 := h2.grown so2 (by simp; omega)
      replace hS0 := seen_step hS0 so2 (Nat.le_refl _)
      replace hS1 := seen_step hS1 so2 (Nat.le_refl _)
      replace hS2 := seen_step hS2 so2 (Nat.le_refl _)
      replace hE := hE.grownX so2 (by omega) (by omega) (by omega) (by omega) (by omega)
      replace hs := hs.grown so2 hx9
      have hs26r := hE
      refine hKQ.out _ _ hs26r ?_
      clear hKQ KQ
      try simp only [Act.put]
      (refine held_takeA 10 (by rfl) ?_ (by kernel_rfl) (fun _ _ _ h => h) hs26r ?_ ?_; rotate_left; (focus (intro wq hSw; have hrd := hSw; have c_n16 := hSw.n16.cellv 0 (v := .func (.func 18) #[.pointer (some ⟨gs, 0, none⟩)] #[]) rfl; have l_n16 := hSw.n16.lt; go_simp; try with_reducible rfl; done)); try simp only [Act.put, List.setIfInBounds_toArray, List.set_cons_zero, List.set_cons_succ])
      clear so2
      have z0 := hv.cellv 10 (v := .int .i64 0) rfl
      have f0 := hv.frozen 10
      have l0 := hv.lt
      refine held_callA 11 (by rfl) (by kernel_rfl) (by rfl) (fun KQ hKQ => ?_)
      go_simp
      obtain ⟨so1, so2⟩ := blk_store hv 10 (.int .i64 (numV (pS10 l) 2))
      clear f0 l0 z0
      generalize m15.setCell ⟨a9, 10, none⟩ (.int .i64 (numV (pS10 l) 2)) = m16 at *
      replace hv : Blk m16 a9 29 #[.int .i64 (numV (pS0 l) 2), .int .u32 (numV (pS1 l) 4), .int .u32 (numV (pS2 l) 4), .slice A0 n0 c0, .slice A1 n1 c1, .slice A2 n2 c2, .int .i64 (numV (pS6 l) 1), .int .i64 (numV (pS7 l) 1), .int .i64 (numV (pS8 l) 2), .int .i64 (numV (pS9 l) 2), .int .i64 (numV (pS10 l) 2), .int .i64 0, .int .i64 0, .int .i64 0, .int .i64 0, .int .i64 0, .int .i64 0, .int .i64 0, .int .i64 0] := so1
      clear so1
      replace hB := below_own hB so2 hB.size hwa
      replace h := byt_grown h so2 hB1 (by omega)
      replace hB1 := Nat.le_trans hB1 so2.size
      replace h2 := h2.grown so2 (by simp; omega)
      replace hS0 := seen_step hS0 so2 (Nat.le_refl _)
      replace hS1 := seen_step hS1 so2 (Nat.le_refl _)
      replace hS2 := seen_step hS2 so2 (Nat.le_refl _)
      replace hE := hE.grownX so2 (by omega) (by omega) (by omega) (by omega) (by omega)
      replace hs := hs.grown so2 hx9
      have hs27r := hE
      refine hKQ.out _ _ hs27r ?_
      clear hKQ KQ
      try simp only [Act.put]
      clear so2
      refine wpAnyH_done (by kernel_rfl) ?_ _
      try refine NoPanic.normal ?_
      go_upto_region 10 with (fail)
      -- region 10: 0 1C 2 3C 4 5M 6 7M
      try refine wp_region_noPanic ?_
      have hs28r : (fun w' => PEnv w' gs g4 g5 g6 g7 g8) m16.drew := hE.below (Below.refl _ _).drew
      refine wp_region_held_drew (S := fun w' => PEnv w' gs g4 g5 g6 g7 g8) (by kernel_rfl) hs28r (fun _ => ?_)
      (refine held_takeA 0 (by rfl) ?_ (by kernel_rfl) (fun _ _ _ h => h) hs28r ?_ ?_; rotate_left; (focus (intro wq hSw; have hrd := hSw; have c_n32 := hSw.n32.cellv 0 (v := .func (.func 20) #[] #[.pointer (some ⟨g4, 0, none⟩)]) rfl; have l_n32 := hSw.n32.lt; go_simp; try with_reducible rfl; done)); try simp only [Act.put, List.setIfInBounds_toArray, List.set_cons_zero, List.set_cons_succ])
      (refine held_takeA 2 (by rfl) ?_ (by kernel_rfl) (fun _ _ _ h => h) hs28r ?_ ?_; rotate_left; (focus (intro wq hSw; have hrd := hSw; have c_n32 := hSw.n32.cellv 0 (v := .func (.func 20) #[] #[.pointer (some ⟨g4, 0, none⟩)]) rfl; have l_n32 := hSw.n32.lt; go_simp; try with_reducible rfl; done)); try simp only [Act.put, List.setIfInBounds_toArray, List.set_cons_zero, List.set_cons_succ])
      refine held_callA 1 (by rfl) (by kernel_rfl) (by rfl) (fun KQ hKQ => ?_)
      go_simp
      refine (n32P m16.drew gs g4 (pS11 l) hs.drew (show Blk _ _ _ _ from hE.s4)).mono ?_
      clear hs
      rintro e m17 ⟨rfl, hs, hg⟩
      replace hs : Src m17 gs (pS12 l) := hs
      replace hg : m16.grownBy m17 (some gs) := grown_trans (grown_drew (grown_refl _ _)) hg
      replace hv := hv.grown hg (by simp; omega)
      replace hB := below_own hB hg hB.size hgw
      replace h := byt_grown h hg hB1 hwB
      replace hB1 := Nat.le_trans hB1 hg.size
      replace h2 := h2.grown hg (by simp; omega)
      replace hS0 := seen_step hS0 hg (by omega)
      replace hS1 := seen_step hS1 hg (by omega)
      replace hS2 := seen_step hS2 hg (by omega)
      replace hE := hE.grown hg
      have hs29r := hE
      refine hKQ.out _ _ hs29r ?_
      clear hKQ KQ
      try simp only [Act.put, List.setIfInBounds_toArray, List.set_cons_zero, List.set_cons_succ]
      (refine held_takeA 4 (by rfl) ?_ (by kernel_rfl) (fun _ _ _ h => h) hs29r ?_ ?_; rotate_left; (focus (intro wq hSw; have hrd := hSw; have c_n32 := hSw.n32.cellv 0 (v := .func (.func 20) #[] #[.pointer (some ⟨g4, 0, none⟩)]) rfl; have l_n32 := hSw.n32.lt; go_simp; try with_reducible rfl; done)); try simp only [Act.put, List.setIfInBounds_toArray, List.set_cons_zero, List.set_cons_succ])
      clear hg
      refine held_callA 3 (by rfl) (by kernel_rfl) (by rfl) (fun KQ hKQ => ?_)
      go_simp
      refine (n32P m17 gs g4 (pS12 l) hs hE.s4).mono ?_
      clear hs
      rintro e m18 ⟨rfl, hs, hg⟩
      replace hs : Src m18 gs (pS13 l) := hs
      replace hv := hv.grown hg (by simp; omega)
      replace hB := below_own hB hg hB.size hgw
      replace h := byt_grown h hg hB1 hwB
      replace hB1 := Nat.le_trans hB1 hg.size
      replace h2 := h2.grown hg (by simp; omega)
      replace hS0 := seen_step hS0 hg (by omega)
      replace hS1 := seen_step hS1 hg (by omega)
      replace hS2 := seen_step hS2 hg (by omega)
      replace hE := hE.grown hg
      have hs30r := hE
      refine hKQ.out _ _ hs30r ?_
      clear hKQ KQ
      try simp only [Act.put, List.setIfInBounds_toArray, List.set_cons_zero, List.set_cons_succ]
      clear hg
      have z0 := hv.cellv 11 (v := .int .i64 0) rfl
      have f0 := hv.frozen 11
      have l0 := hv.lt
      refine held_callA 5 (by rfl) (by kernel_rfl) (by rfl) (fun KQ hKQ => ?_)
      go_simp
      obtain ⟨so1, so2⟩ := blk_store hv 11 (.int .i64 (numV (pS11 l) 4))
      clear f0 l0 z0
      generalize m18.setCell ⟨a9, 11, none⟩ (.int .i64 (numV (pS11 l) 4)) = m19 at *
      replace hv : Blk m19 a9 29 #[.int .i64 (numV (pS0 l) 2), .int .u32 (numV (pS1 l) 4), .int .u32 (numV (pS2 l) 4), .slice A0 n0 c0, .slice A1 n1 c1, .slice A2 n2 c2, .int .i64 (numV (pS6 l) 1), .int .i64 (numV (pS7 l) 1), .int .i64 (numV (pS8 l) 2), .int .i64 (numV (pS9 l) 2), .int .i64 (numV (pS10 l) 2), .int .i64 (numV (pS11 l) 4), .int .i64 0, .int .i64 0, .int .i64 0, .int .i64 0, .int .i64 0, .int .i64 0, .int .i64 0] := so1
      clear so1
      replace hB := below_own hB so2 hB.size hwa
      replace h := byt_grown h so2 hB1 (by omega)
      replace hB1 := Nat.le_trans hB1 so2.size
      replace h2 := h2.grown so2 (by simp; omega)
      replace hS0 := seen_step hS0 so2 (Nat.le_refl _)
      replace hS1 := seen_step hS1 so2 (Nat.le_refl _)
      replace hS2 := seen_step hS2 so2 (Nat.le_refl _)
      replace hE := hE.grownX so2 (by omega) (by omega) (by omega) (by omega) (by omega)
      replace hs := hs.grown so2 hx9
      have hs31r := hE
      refine hKQ.out _ _ hs31r ?_
      clear hKQ KQ
      try simp only [Act.put]
      (refine held_takeA 6 (by rfl) ?_ (by kernel_rfl) (fun _ _ _ h => h) hs31r ?_ ?_; rotate_left; (focus (intro wq hSw; have hrd := hSw; have c_n32 := hSw.n32.cellv 0 (v := .func (.func 20) #[] #[.pointer (some ⟨g4, 0, none⟩)]) rfl; have l_n32 := hSw.n32.lt; go_simp; try with_reducible rfl; done)); try simp only [Act.put, List.setIfInBounds_toArray, List.set_cons_zero, List.set_cons_succ])
      clear so2
      have z0 := hv.cellv 12 (v := .int .i64 0) rfl
      have f0 := hv.frozen 12
      have l0 := hv.lt
      refine held_callA 7 (by rfl) (by kernel_rfl) (by rfl) (fun KQ hKQ => ?_)
      go_simp
      obtain ⟨so1, so2⟩ := blk_store hv 12 (.int .i64 (numV (pS12 l) 4))
      clear f0 l0 z0
      generalize m19.setCell ⟨a9, 12, none⟩ (.int .i64 (numV (pS12 l) 4)) = m20 at *
      replace hv : Blk m20 a9 29 #[.int .i64 (numV (pS0 l) 2), .int .u32 (numV (pS1 l) 4), .int .u32 (numV (pS2 l) 4), .slice A0 n0 c0, .slice A1 n1 c1, .slice A2 n2 c2, .int .i64 (numV (pS6 l) 1), .int .i64 (numV (pS7 l) 1), .int .i64 (numV (pS8 l) 2), .int .i64 (numV (pS9 l) 2), .int .i64 (numV (pS10 l) 2), .int .i64 (numV (pS11 l) 4), .int .i64 (numV (pS12 l) 4), .int .i64 0, .int .i64 0, .int .i64 0, .int .i64 0, .int .i64 0, .int .i64 0] := so1
      clear so1
      replace hB := below_own hB so2 hB.size hwa
      replace h := byt_grown h so2 hB1 (by omega)
      replace hB1 := Nat.le_trans hB1 so2.size
      replace h2 := h2.grown so2 (by simp; omega)
      replace hS0 := seen_step hS0 so2 (Nat.le_refl _)
      replace hS1 := seen_step hS1 so2 (Nat.le_refl _)
      replace hS2 := seen_step hS2 so2 (Nat.le_refl _)
      replace hE := hE.grownX so2 (by omega) (by omega) (by omega) (by omega) (by omega)
      replace hs := hs.grown so2 hx9
      have hs32r := hE
      refine hKQ.out _ _ hs32r ?_
      clear hKQ KQ
      try simp only [Act.put]
      clear so2
      refine wpAnyH_done (by kernel_rfl) ?_ _
      try refine NoPanic.normal ?_
      go_upto_region 11 with (fail)
      -- region 11: 0 1C 2 3C 4 5C 6 7C 8 9C 10 11 12M
      try refine wp_region_noPanic ?_
      have hs33r : (fun w' => PEnv w' gs g4 g5 g6 g7 g8) m20.drew := hE.below (Below.refl _ _).drew
      refine wp_region_held_drew (S := fun w' => PEnv w' gs g4 g5 g6 g7 g8) (by kernel_rfl) hs33r (fun _ => ?_)
      (refine held_takeA 0 (by rfl) ?_ (by kernel_rfl) (fun _ _ _ h => h) hs33r ?_ ?_; rotate_left; (focus (intro wq hSw; have hrd := hSw; have c_n16 := hSw.n16.cellv 0 (v := .func (.func 18) #[.pointer (some ⟨gs, 0, none⟩)] #[]) rfl; have l_n16 := hSw.n16.lt; have c_n32 := hSw.n32.cellv 0 (v := .func (.func 20) #[] #[.pointer (some ⟨g4, 0, none⟩)]) rfl; have l_n32 := hSw.n32.lt; go_simp; try with_reducible rfl; done)); try simp only [Act.put, List.setIfInBounds_toArray, List.set_cons_zero, List.set_cons_succ])
      (refine held_takeA 2 (by rfl) ?_ (by kernel_rfl) (fun _ _ _ h => h) hs33r ?_ ?_; rotate_left; (focus (intro wq hSw; have hrd := hSw; have c_n16 := hSw.n16.cellv 0 (v := .func (.func 18) #[.pointer (some ⟨gs, 0, none⟩)] #[]) rfl; have l_n16 := hSw.n16.lt; have c_n32 := hSw.n32.cellv 0 (v := .func (.func 20) #[] #[.pointer (some ⟨g4, 0, none⟩)]) rfl; have l_n32 := hSw.n32.lt; go_simp; try with_reducible rfl; done)); try simp only [Act.put, List.setIfInBounds_toArray, List.set_cons_zero, List.set_cons_succ])
      (refine held_takeA 4 (by rfl) ?_ (by kernel_rfl) (fun _ _ _ h => h) hs33r ?_ ?_; rotate_left; (focus (intro wq hSw; have hrd := hSw; have c_n16 := hSw.n16.cellv 0 (v := .func (.func 18) #[.pointer (some ⟨gs, 0, none⟩)] #[]) rfl; have l_n16 := hSw.n16.lt; have c_n32 := hSw.n32.cellv 0 (v := .func (.func 20) #[] #[.pointer (some ⟨g4, 0, none⟩)]) rfl; have l_n32 := hSw.n32.lt; go_simp; try with_reducible rfl; done)); try simp only [Act.put, List.setIfInBounds_toArray, List.set_cons_zero, List.set_cons_succ])
      (refine held_takeA 6 (by rfl) ?_ (by kernel_rfl) (fun _ _ _ h => h) hs33r ?_ ?_; rotate_left; (focus (intro wq hSw; have hrd := hSw; have c_n16 := hSw.n16.cellv 0 (v := .func (.func 18) #[.pointer (some ⟨gs, 0, none⟩)] #[]) rfl; have l_n16 := hSw.n16.lt; have c_n32 := hSw.n32.cellv 0 (v := .func (.func 20) #[] #[.pointer (some ⟨g4, 0, none⟩)]) rfl; have l_n32 := hSw.n32.lt; go_simp; try with_reducible rfl; done)); try simp only [Act.put, List.setIfInBounds_toArray, List.set_cons_zero, List.set_cons_succ])
      (refine held_takeA 8 (by rfl) ?_ (by kernel_rfl) (fun _ _ _ h => h) hs33r ?_ ?_; rotate_left; (focus (intro wq hSw; have hrd := hSw; have c_n16 := hSw.n16.cellv 0 (v := .func (.func 18) #[.pointer (some ⟨gs, 0, none⟩)] #[]) rfl; have l_n16 := hSw.n16.lt; have c_n32 := hSw.n32.cellv 0 (v := .func (.func 20) #[] #[.pointer (some ⟨g4, 0, none⟩)]) rfl; have l_n32 := hSw.n32.lt; go_simp; try with_reducible rfl; done)); try simp only [Act.put, List.setIfInBounds_toArray, List.set_cons_zero, List.set_cons_succ])
      refine held_callA 1 (by rfl) (by kernel_rfl) (by rfl) (fun KQ hKQ => ?_)
      go_simp
      refine (n32P m20.drew gs g4 (pS13 l) hs.drew (show Blk _ _ _ _ from hE.s4)).mono ?_
      clear hs
      rintro e m21 ⟨rfl, hs, hg⟩
      replace hs : Src m21 gs (pS14 l) := hs
      replace hg : m20.grownBy m21 (some gs) := grown_trans (grown_drew (grown_refl _ _)) hg
      replace hv := hv.grown hg (by simp; omega)
      replace hB := below_own hB hg hB.size hgw
      replace h := byt_grown h hg hB1 hwB
      replace hB1 := Nat.le_trans hB1 hg.size
      replace h2 := h2.grown hg (by simp; omega)
      replace hS0 := seen_step hS0 hg (by omega)
      replace hS1 := seen_step hS1 hg (by omega)
      replace hS2 := seen_step hS2 hg (by omega)
      replace hE := hE.grown hg
      have hs34r := hE
      refine hKQ.out _ _ hs34r ?_
      clear hKQ KQ
      try simp only [Act.put, List.setIfInBounds_toArray, List.set_cons_zero, List.set_cons_succ]
      clear hg
      refine held_callA 3 (by rfl) (by kernel_rfl) (by rfl) (fun KQ hKQ => ?_)
      go_simp
      refine (n32P m21 gs g4 (pS14 l) hs hE.s4).mono ?_
      clear hs
      rintro e m22 ⟨rfl, hs, hg⟩
      replace hs : Src m22 gs (pS15 l) := hs
      replace hv := hv.grown hg (by simp; omega)
      replace hB := below_own hB hg hB.size hgw
      replace h := byt_grown h hg hB1 hwB
      replace hB1 := Nat.le_trans hB1 hg.size
      replace h2 := h2.grown hg (by simp; omega)
      replace hS0 := seen_step hS0 hg (by omega)
      replace hS1 := seen_step hS1 hg (by omega)
      replace hS2 := seen_step hS2 hg (by omega)
      replace hE := hE.grown hg
      have hs35r := hE
      refine hKQ.out _ _ hs35r ?_
      clear hKQ KQ
      try simp only [Act.put, List.setIfInBounds_toArray, List.set_cons_zero, List.set_cons_succ]
      clear hg
      refine held_callA 5 (by rfl) (by kernel_rfl) (by rfl) (fun KQ hKQ => ?_)
      go_simp
      refine (n32P m22 gs g4 (pS15 l) hs hE.s4).mono ?_
      clear hs
      rintro e m23 ⟨rfl, hs, hg⟩
      replace hs : Src m23 gs (pS16 l) := hs
      replace hv := hv.grown hg (by simp; omega)
      replace hB := below_own hB hg hB.size hgw
      replace h := byt_grown h hg hB1 hwB
      replace hB1 := Nat.le_trans hB1 hg.size
      replace h2 := h2.grown hg (by simp; omega)
      replace hS0 := seen_step hS0 hg (by omega)
      replace hS1 := seen_step hS1 hg (by omega)
      replace hS2 := seen_step hS2 hg (by omega)
      replace hE := hE.grown hg
      have hs36r := hE
      refine hKQ.out _ _ hs36r ?_
      clear hKQ KQ
      try simp only [Act.put, List.setIfInBounds_toArray, List.set_cons_zero, List.set_cons_succ]
      clear hg
      refine held_callA 7 (by rfl) (by kernel_rfl) (by rfl) (fun KQ hKQ => ?_)
      go_simp
      refine (n32P m23 gs g4 (pS16 l) hs hE.s4).mono ?_
      clear hs
      rintro e m24 ⟨rfl, hs, hg⟩
      replace hs : Src m24 gs (pS17 l) := hs
      replace hv := hv.grown hg (by simp; omega)
      replace hB := below_own hB hg hB.size hgw
      replace h := byt_grown h hg hB1 hwB
      replace hB1 := Nat.le_trans hB1 hg.size
      replace h2 := h2.grown hg (by simp; omega)
      replace hS0 := seen_step hS0 hg (by omega)
      replace hS1 := seen_step hS1 hg (by omega)
      replace hS2 := seen_step hS2 hg (by omega)
      replace hE := hE.grown hg
      have hs37r := hE
      refine hKQ.out _ _ hs37r ?_
      clear hKQ KQ
      try simp only [Act.put, List.setIfInBounds_toArray, List.set_cons_zero, List.set_cons_succ]
      clear hg
      refine held_callA 9 (by rfl) (by kernel_rfl) (by rfl) (fun KQ hKQ => ?_)
      go_simp
      refine (u16P m24 gs (pS17 l) hs).mono ?_
      clear hs
      rintro e m25 ⟨rfl, hs, hg⟩
      replace hs : Src m25 gs (pS18 l) := hs
      replace hv := hv.grown hg (by simp; omega)
      replace hB := below_own hB hg hB.size hgw
      replace h := byt_grown h hg hB1 hwB
      replace hB1 := Nat.le_trans hB1 hg.size
      replace h2 := h2.grown hg (by simp; omega)
      replace hS0 := seen_step hS0 hg (by omega)
      replace hS1 := seen_step hS1 hg (by omega)
      replace hS2 := seen_step hS2 hg (by omega)
      replace hE := hE.grown hg
      have hs38r := hE
      refine hKQ.out _ _ hs38r ?_
      clear hKQ KQ
      try simp only [Act.put, List.setIfInBounds_toArray, List.set_cons_zero, List.set_cons_succ]
      (refine held_takeA 10 (by rfl) ?_ (by kernel_rfl) (fun _ _ _ h => h) hs38r ?_ ?_; rotate_left; (focus (intro wq hSw; have hrd := hSw; have c_n16 := hSw.n16.cellv 0 (v := .func (.func 18) #[.pointer (some ⟨gs, 0, none⟩)] #[]) rfl; have l_n16 := hSw.n16.lt; have c_n32 := hSw.n32.cellv 0 (v := .func (.func 20) #[] #[.pointer (some ⟨g4, 0, none⟩)]) rfl; have l_n32 := hSw.n32.lt; go_simp; try with_reducible rfl; done)); try simp only [Act.put, List.setIfInBounds_toArray, List.set_cons_zero, List.set_cons_succ])
      (refine held_takeA 11 (by rfl) ?_ (by kernel_rfl) (fun _ _ _ h => h) hs38r ?_ ?_; rotate_left; (focus (intro wq hSw; have hrd := hSw; have c_n16 := hSw.n16.cellv 0 (v := .func (.func 18) #[.pointer (some ⟨gs, 0, none⟩)] #[]) rfl; have l_n16 := hSw.n16.lt; have c_n32 := hSw.n32.cellv 0 (v := .func (.func 20) #[] #[.pointer (some ⟨g4, 0, none⟩)]) rfl; have l_n32 := hSw.n32.lt; go_simp; try with_reducible rfl; done)); try simp only [Act.put, List.setIfInBounds_toArray, List.set_cons_zero, List.set_cons_succ])
      clear hg
      refine held_callA 12 (by rfl) (by kernel_rfl) (by rfl) (fun KQ hKQ => ?_)
      refine wp_store_mid 27 (.tmp 70) (.tmp 69) (by rfl) a9 13 #[.int .i64 (numV (pS13 l) 4), .int .i64 (numV (pS14 l) 4), .int .i64 (numV (pS15 l) 4), .int .i64 (numV (pS16 l) 4), .int .i64 (numV (pS17 l) 2)] (by rfl) (by rfl) (fun j hj => ⟨by rw [hv.cell]; match j, hj with
        | 0, _ => rfl
        | 1, _ => rfl
        | 2, _ => rfl
        | 3, _ => rfl
        | 4, _ => rfl, hv.frozen _⟩) (by kernel_rfl) (by simp [Value.oneCell']) ?_
      rw [show m25.setCells a9 13 (#[.int .i64 (numV (pS13 l) 4), .int .i64 (numV (pS14 l) 4), .int .i64 (numV (pS15 l) 4), .int .i64 (numV (pS16 l) 4), .int .i64 (numV (pS17 l) 2)] : Array Value).toList = (((((m25.setCell ⟨a9, 13, none⟩ (.int .i64 (numV (pS13 l) 4))).setCell ⟨a9, 14, none⟩ (.int .i64 (numV (pS14 l) 4))).setCell ⟨a9, 15, none⟩ (.int .i64 (numV (pS15 l) 4))).setCell ⟨a9, 16, none⟩ (.int .i64 (numV (pS16 l) 4))).setCell ⟨a9, 17, none⟩ (.int .i64 (numV (pS17 l) 2))) from rfl]
      obtain ⟨so1, so2⟩ := blk_store hv 13 (.int .i64 (numV (pS13 l) 4))
      generalize m25.setCell ⟨a9, 13, none⟩ (.int .i64 (numV (pS13 l) 4)) = m26 at *
      replace hv : Blk m26 a9 29 #[.int .i64 (numV (pS0 l) 2), .int .u32 (numV (pS1 l) 4), .int .u32 (numV (pS2 l) 4), .slice A0 n0 c0, .slice A1 n1 c1, .slice A2 n2 c2, .int .i64 (numV (pS6 l) 1), .int .i64 (numV (pS7 l) 1), .int .i64 (numV (pS8 l) 2), .int .i64 (numV (pS9 l) 2), .int .i64 (numV (pS10 l) 2), .int .i64 (numV (pS11 l) 4), .int .i64 (numV (pS12 l) 4), .int .i64 (numV (pS13 l) 4), .int .i64 0, .int .i64 0, .int .i64 0, .int .i64 0, .int .i64 0] := so1
      clear so1
      replace hB := below_own hB so2 hB.size hwa
      replace h := byt_grown h so2 hB1 (by omega)
      replace hB1 := Nat.le_trans hB1 so2.size
      replace h2 := h2.grown so2 (by simp; omega)
      replace hS0 := seen_step hS0 so2 (Nat.le_refl _)
      replace hS1 := seen_step hS1 so2 (Nat.le_refl _)
      replace hS2 := seen_step hS2 so2 (Nat.le_refl _)
      replace hE := hE.grownX so2 (by omega) (by omega) (by omega) (by omega) (by omega)
      replace hs := hs.grown so2 hx9
      clear so2
      obtain ⟨so1, so2⟩ := blk_store hv 14 (.int .i64 (numV (pS14 l) 4))
      generalize m26.setCell ⟨a9, 14, none⟩ (.int .i64 (numV (pS14 l) 4)) = m27 at *
      replace hv : Blk m27 a9 29 #[.int .i64 (numV (pS0 l) 2), .int .u32 (numV (pS1 l) 4), .int .u32 (numV (pS2 l) 4), .slice A0 n0 c0, .slice A1 n1 c1, .slice A2 n2 c2, .int .i64 (numV (pS6 l) 1), .int .i64 (numV (pS7 l) 1), .int .i64 (numV (pS8 l) 2), .int .i64 (numV (pS9 l) 2), .int .i64 (numV (pS10 l) 2), .int .i64 (numV (pS11 l) 4), .int .i64 (numV (pS12 l) 4), .int .i64 (numV (pS13 l) 4), .int .i64 (numV (pS14 l) 4), .int .i64 0, .int .i64 0, .int .i64 0, .int .i64 0] := so1
      clear so1
      replace hB := below_own hB so2 hB.size hwa
      replace h := byt_grown h so2 hB1 (by omega)
      replace hB1 := Nat.le_trans hB1 so2.size
      replace h2 := h2.grown so2 (by simp; omega)
      replace hS0 := seen_step hS0 so2 (Nat.le_refl _)
      replace hS1 := seen_step hS1 so2 (Nat.le_refl _)
      replace hS2 := seen_step hS2 so2 (Nat.le_refl _)
      replace hE := hE.grownX so2 (by omega) (by omega) (by omega) (by omega) (by omega)
      replace hs := hs.grown so2 hx9
      clear so2
      obtain ⟨so1, so2⟩ := blk_store hv 15 (.int .i64 (numV (pS15 l) 4))
      generalize m27.setCell ⟨a9, 15, none⟩ (.int .i64 (numV (pS15 l) 4)) = m28 at *
      replace hv : Blk m28 a9 29 #[.int .i64 (numV (pS0 l) 2), .int .u32 (numV (pS1 l) 4), .int .u32 (numV (pS2 l) 4), .slice A0 n0 c0, .slice A1 n1 c1, .slice A2 n2 c2, .int .i64 (numV (pS6 l) 1), .int .i64 (numV (pS7 l) 1), .int .i64 (numV (pS8 l) 2), .int .i64 (numV (pS9 l) 2), .int .i64 (numV (pS10 l) 2), .int .i64 (numV (pS11 l) 4), .int .i64 (numV (pS12 l) 4), .int .i64 (numV (pS13 l) 4), .int .i64 (numV (pS14 l) 4), .int .i64 (numV (pS15 l) 4), .int .i64 0, .int .i64 0, .int .i64 0] := so1
      clear so1
      replace hB := below_own hB so2 hB.size hwa
      replace h := byt_grown h so2 hB1 (by omega)
      replace hB1 := Nat.le_trans hB1 so2.size
      replace h2 := h2.grown so2 (by simp; omega)
      replace hS0 := seen_step hS0 so2 (Nat.le_refl _)
      replace hS1 := seen_step hS1 so2 (Nat.le_refl _)
      replace hS2 := seen_step hS2 so2 (Nat.le_refl _)
      replace hE := hE.grownX so2 (by omega) (by omega) (by omega) (by omega) (by omega)
      replace hs := hs.grown so2 hx9
      clear so2
      obtain ⟨so1, so2⟩ := blk_store hv 16 (.int .i64 (numV (pS16 l) 4))
      generalize m28.setCell ⟨a9, 16, none⟩ (.int .i64 (numV (pS16 l) 4)) = m29 at *
      replace hv : Blk m29 a9 29 #[.int .i64 (numV (pS0 l) 2), .int .u32 (numV (pS1 l) 4), .int .u32 (numV (pS2 l) 4), .slice A0 n0 c0, .slice A1 n1 c1, .slice A2 n2 c2, .int .i64 (numV (pS6 l) 1), .int .i64 (numV (pS7 l) 1), .int .i64 (numV (pS8 l) 2), .int .i64 (numV (pS9 l) 2), .int .i64 (numV (pS10 l) 2), .int .i64 (numV (pS11 l) 4), .int .i64 (numV (pS12 l) 4), .int .i64 (numV (pS13 l) 4), .int .i64 (numV (pS14 l) 4), .int .i64 (numV (pS15 l) 4), .int .i64 (numV (pS16 l) 4), .int .i64 0, .int .i64 0] := so1
      clear so1
      replace hB := below_own hB so2 hB.size hwa
      replace h := byt_grown h so2 hB1 (by omega)
      replace hB1 := Nat.le_trans hB1 so2.size
      replace h2 := h2.grown so2 (by simp; omega)
      replace hS0 := seen_step hS0 so2 (Nat.le_refl _)
      replace hS1 := seen_step hS1 so2 (Nat.le_refl _)
      replace hS2 := seen_step hS2 so2 (Nat.le_refl _)
      replace hE := hE.grownX so2 (by omega) (by omega) (by omega) (by omega) (by omega)
      replace hs := hs.grown so2 hx9
      clear so2
      obtain ⟨so1, so2⟩ := blk_store hv 17 (.int .i64 (numV (pS17 l) 2))
      generalize m29.setCell ⟨a9, 17, none⟩ (.int .i64 (numV (pS17 l) 2)) = m30 at *
      replace hv : Blk m30 a9 29 #[.int .i64 (numV (pS0 l) 2), .int .u32 (numV (pS1 l) 4), .int .u32 (numV (pS2 l) 4), .slice A0 n0 c0, .slice A1 n1 c1, .slice A2 n2 c2, .int .i64 (numV (pS6 l) 1), .int .i64 (numV (pS7 l) 1), .int .i64 (numV (pS8 l) 2), .int .i64 (numV (pS9 l) 2), .int .i64 (numV (pS10 l) 2), .int .i64 (numV (pS11 l) 4), .int .i64 (numV (pS12 l) 4), .int .i64 (numV (pS13 l) 4), .int .i64 (numV (pS14 l) 4), .int .i64 (numV (pS15 l) 4), .int .i64 (numV (pS16 l) 4), .int .i64 (numV (pS17 l) 2), .int .i64 0] := so1
      clear so1
      replace hB := below_own hB so2 hB.size hwa
      replace h := byt_grown h so2 hB1 (by omega)
      replace hB1 := Nat.le_trans hB1 so2.size
      replace h2 := h2.grown so2 (by simp; omega)
      replace hS0 := seen_step hS0 so2 (Nat.le_refl _)
      replace hS1 := seen_step hS1 so2 (Nat.le_refl _)
      replace hS2 := seen_step hS2 so2 (Nat.le_refl _)
      replace hE := hE.grownX so2 (by omega) (by omega) (by omega) (by omega) (by omega)
      replace hs := hs.grown so2 hx9
      clear so2
      have hs39r := hE
      refine hKQ.out _ _ hs39r ?_
      clear hKQ KQ
      try simp only [Act.put]
      refine wpAnyH_done (by kernel_rfl) ?_ _
      try refine NoPanic.normal ?_
      have c_32 := hE.n32.cellv 0 (v := .func (.func 20) #[] #[.pointer (some ⟨g4, 0, none⟩)]) rfl
      have l_32 := hE.n32.lt
      go_wp2_with fail
      refine (n32P m30 gs g4 (pS18 l) hs hE.s4).mono ?_
      clear hs c_32 l_32
      rintro e m31 ⟨rfl, hs, hg⟩
      replace hs : Src m31 gs (pS19 l) := hs
      replace hv := hv.grown hg (by simp; omega)
      replace hB := below_own hB hg hB.size hgw
      replace h := byt_grown h hg hB1 hwB
      replace hB1 := Nat.le_trans hB1 hg.size
      replace h2 := h2.grown hg (by simp; omega)
      replace hS0 := seen_step hS0 hg (by omega)
      replace hS1 := seen_step hS1 hg (by omega)
      replace hS2 := seen_step hS2 hg (by omega)
      replace hE := hE.grown hg
      clear hg
      have z0 := hv.cellv 18 (v := .int .i64 0) rfl
      obtain ⟨so1, so2⟩ := blk_store hv 18 (.int .i64 (numV (pS18 l) 4))
      have f0 := hv.frozen 18
      have l0 := hv.lt
      go_upto_region 13 with (fail)
      clear f0 l0 z0
      generalize m31.setCell ⟨a9, 18, none⟩ (.int .i64 (numV (pS18 l) 4)) = m32 at *
      replace hv : Blk m32 a9 29 #[.int .i64 (numV (pS0 l) 2), .int .u32 (numV (pS1 l) 4), .int .u32 (numV (pS2 l) 4), .slice A0 n0 c0, .slice A1 n1 c1, .slice A2 n2 c2, .int .i64 (numV (pS6 l) 1), .int .i64 (numV (pS7 l) 1), .int .i64 (numV (pS8 l) 2), .int .i64 (numV (pS9 l) 2), .int .i64 (numV (pS10 l) 2), .int .i64 (numV (pS11 l) 4), .int .i64 (numV (pS12 l) 4), .int .i64 (numV (pS13 l) 4), .int .i64 (numV (pS14 l) 4), .int .i64 (numV (pS15 l) 4), .int .i64 (numV (pS16 l) 4), .int .i64 (numV (pS17 l) 2), .int .i64 (numV (pS18 l) 4)] := so1
      clear so1
      replace hB := below_own hB so2 hB.size hwa
      replace h := byt_grown h so2 hB1 (by omega)
      replace hB1 := Nat.le_trans hB1 so2.size
      replace h2 := h2.grown so2 (by simp; omega)
      replace hS0 := seen_step hS0 so2 (Nat.le_refl _)
      replace hS1 := seen_step hS1 so2 (Nat.le_refl _)
      replace hS2 := seen_step hS2 so2 (Nat.le_refl _)
      replace hE := hE.grownX so2 (by omega) (by omega) (by omega) (by omega) (by omega)
      replace hs := hs.grown so2 hx9
      clear so2
      obtain ⟨c9, hc9⟩ : ∃ c9 : CfgV, c9 = ⟨numV (pS0 l) 2, numV (pS1 l) 4, numV (pS2 l) 4, A0, n0, c0, L0, A1, n1, c1, L1, A2, n2, c2, L2, numV (pS6 l) 1, numV (pS7 l) 1, numV (pS8 l) 2, numV (pS9 l) 2, numV (pS10 l) 2, numV (pS11 l) 4, numV (pS12 l) 4, numV (pS13 l) 4, numV (pS14 l) 4, numV (pS15 l) 4, numV (pS16 l) 4, numV (pS17 l) 2, numV (pS18 l) 4⟩ := ⟨_, rfl⟩
      obtain ⟨hC9, hsm9, hw9⟩ := parsed_in m32 l A0 A1 A2 n0 c0 n1 c1 n2 c2 L0 L1 L2 hL0.out hL1.out hL2.out hn0.out hn1.out hn2.out hc0 hm0 hc1 hm1 hc2 hm2 (hS0.more fun b q => q.2) (hS1.more fun b q => q.2) (hS2.more fun b q => q.2) c9 hc9
      rw [show (#[.int .i64 (numV (pS0 l) 2), .int .u32 (numV (pS1 l) 4), .int .u32 (numV (pS2 l) 4), .slice A0 n0 c0, .slice A1 n1 c1, .slice A2 n2 c2, .int .i64 (numV (pS6 l) 1), .int .i64 (numV (pS7 l) 1), .int .i64 (numV (pS8 l) 2), .int .i64 (numV (pS9 l) 2), .int .i64 (numV (pS10 l) 2), .int .i64 (numV (pS11 l) 4), .int .i64 (numV (pS12 l) 4), .int .i64 (numV (pS13 l) 4), .int .i64 (numV (pS14 l) 4), .int .i64 (numV (pS15 l) 4), .int .i64 (numV (pS16 l) 4), .int .i64 (numV (pS17 l) 2), .int .i64 (numV (pS18 l) 4)] : Array Value) = cfgC c9 by rw [hc9]; exact cfgC_mk.symm] at hv
      have hT0 : Seen peerK m32 (fun b => a9 < b ∧ b < m32.heap.size) c9.pA c9.pn c9.P := by rw [hc9]; exact hS0
      have hT1 : Seen vipK m32 (fun b => a9 < b ∧ b < m32.heap.size) c9.vA c9.vn c9.V := by rw [hc9]; exact hS1
      have hT2 : Seen siteK m32 (fun b => a9 < b ∧ b < m32.heap.size) c9.sA c9.sn c9.S := by rw [hc9]; exact hS2
      clear hS0 hS1 hS2 hL0 hL1 hL2 hn0 hn1 hn2 hc0 hc1 hc2 hm0 hm1 hm2 hc9
      replace hw9 := Lib.hid hw9
      generalize numV (pS6 l) 1 = t6
      generalize numV (pS7 l) 1 = t7
      generalize numV (pS8 l) 2 = t8
      generalize numV (pS9 l) 2 = t9
      generalize numV (pS10 l) 2 = t10
      generalize numV (pS11 l) 4 = t11
      generalize numV (pS12 l) 4 = t12
      generalize numV (pS13 l) 4 = t13
      generalize numV (pS14 l) 4 = t14
      generalize numV (pS15 l) 4 = t15
      generalize numV (pS16 l) 4 = t16
      generalize numV (pS17 l) 2 = t17
      generalize numV (pS18 l) 4 = t18
      have hi9 : (Tryz.prog.info? 29).map (·.size) = some (cfgC c9).size := by kernel_rfl
      have hiz : (Tryz.prog.info? 29).map (·.size) = some (19 : Nat) := by kernel_rfl
      have s4 := hE.s4.cellv 0 (v := .pointer (some ⟨gs, 0, none⟩)) rfl
      have l4 := hE.s4.lt
      go_wp2_with fail
      refine (end_any m32 gs (pS19 l) hs).mono ?_
      clear s4 l4 hs hE
      rintro e w9 ⟨rfl, hb⟩
      replace h := h.keep fun p hp => hb.cell (by omega)
      replace h2 := h2.below hb h2.lt
      replace hv := hv.below hb hv.lt
      replace hC9 := hC9.nx hb
      replace hT0 := seen_new hT0 hb
      replace hT1 := seen_new hT1 hb
      replace hT2 := seen_new hT2 hb
      replace hB := hB.trans (hb.mono hB.size)
      replace hB1 := Nat.le_trans hB1 hb.size
      clear hb
      have hbz : ∀ w : World, (Instr.build 29 #[]).run Tryz.prog w = .ok (.agg #[.int .i64 0, .int .u32 0, .int .u32 0, .slice none 0 0, .slice none 0 0, .slice none 0 0, .int .i64 0, .int .i64 0, .int .i64 0, .int .i64 0, .int .i64 0, .int .i64 0, .int .i64 0, .int .i64 0, .int .i64 0, .int .i64 0, .int .i64 0, .int .i64 0, .int .i64 0]) w := fun w => by kernel_rfl
      obtain ⟨E, hEe⟩ : ∃ E, endV (pS19 l) = E := ⟨_, rfl⟩
      rw [hEe]
      by_cases h1 : E = 0
      · subst h1
        replace hEe := Lib.hid hEe
        go_wp2_with (refine wpList_load_blk_w rfl hv 29 (.tmp 9) rfl rfl Tryz.underlying29 rfl hi9 ?_)
        refine (bytesC_any w9 c9 hC9 hsm9).mono ?_
        rintro e w10 ⟨v, rfl, hob, hb⟩
        obtain ⟨A9, k9, rfl, -, -, hby, -⟩ := hob.any2
        replace h := h.keep fun p hp => hb.cell (by omega)
        replace h2 := h2.below hb h2.lt
        replace hv := hv.below hb hv.lt
        replace hC9 := hC9.nx hb
        replace hT0 := seen_new hT0 hb
        replace hT1 := seen_new hT1 hb
        replace hT2 := seen_new hT2 hb
        replace hB := hB.trans (hb.mono hB.size)
        clear hb hob
        go_wp2_with fail
        refine (bytesEq_any A9 A _ k9 n c (outY c9) l _ B w10 hby h).mono ?_
        rintro e w' ⟨rfl, rfl⟩
        clear hby h
        obtain ⟨x, hx⟩ : ∃ x, (outY c9 == l) = x := ⟨_, rfl⟩
        rw [hx]
        cases x
        · have hno := Lib.hid (goodP_no hw9.out (by simpa using hx))
          clear hx
          go_upto_region 14 with (fail)
          go_step
          refine wpList_zero rfl 29 rfl hbz ?_
          simp only [Act.put, List.setIfInBounds_toArray, List.set_cons_zero, List.set_cons_succ]
          refine wpList_store_blk rfl h2 29 (.tmp 2) (.tmp 84) rfl rfl rfl rfl hiz (by simp [Value.oneCell']) ?_
          intro w11 h11 hg11
          simp only [Act.put]
          refine wpList_asg 3 (by rfl) rfl (.int .i64 4) rfl ?_
          simp only [Act.put, List.setIfInBounds_toArray, List.set_cons_zero, List.set_cons_succ]
          apply wpList_nil
          repeat go_step
          refine bodyPost_ret (results_ct rfl _ rfl (load_blk h11 Tryz.underlying29 rfl hiz)) rfl ?_
          refine ⟨zeroC, ?_, zeroC_in _, zeroC_sm, ?_, below_own hB hg11 hB.size (Nat.le_refl _)⟩
          · rw [hP.out.2, (parsed_no hno.out).2]
            rfl
          · rw [hP.out.1, (parsed_no hno.out).1]
            rfl
        · have hy := Lib.hid (parsed_yes hw9.out hEe.out (by simpa using hx))
          clear hx
          go_upto_region 15 with (fail)
          go_step
          refine wpList_load_blk rfl hv 29 (.tmp 9) rfl rfl Tryz.underlying29 rfl hi9 ?_
          simp only [Act.put, List.setIfInBounds_toArray, List.set_cons_zero, List.set_cons_succ]
          refine wpList_store_blk rfl h2 29 (.tmp 2) (.tmp 85) rfl rfl rfl rfl hi9 (by simp [cfgC, Value.oneCell']) ?_
          intro w11 h11 hg11
          simp only [Act.put]
          refine wpList_asg 3 (by rfl) rfl (.int .i64 0) rfl ?_
          simp only [Act.put, List.setIfInBounds_toArray, List.set_cons_zero, List.set_cons_succ]
          apply wpList_nil
          repeat go_step
          refine bodyPost_ret (results_ct rfl _ rfl (load_blk h11 Tryz.underlying29 rfl hi9)) rfl ?_
          have hC11 : CfgIn w11 c9 := ⟨hC9.id_, hC9.own_, hC9.nums, hC9.damp, hC9.lens, seen_apart (hT0.more fun b q => ⟨Nat.lt_trans hx7 q.1, q.2⟩) hg11, seen_apart (hT1.more fun b q => ⟨Nat.lt_trans hx7 q.1, q.2⟩) hg11, seen_apart (hT2.more fun b q => ⟨Nat.lt_trans hx7 q.1, q.2⟩) hg11⟩
          refine ⟨c9, ?_, hC11, hsm9, hy.out.1.trans hP.out.1.symm, below_own hB hg11 hB.size (Nat.le_refl _)⟩
          rw [hP.out.2, hy.out.2]
          rfl
      · have d1 : (E != 0) = true := by simpa using h1
        have hno := Lib.hid (goodP_end (by rw [hEe]; exact h1))
        replace hEe := Lib.hid hEe
        replace h1 := Lib.hid h1
        go_upto_region 14 with (fail)
        go_step
        refine wpList_zero rfl 29 rfl hbz ?_
        simp only [Act.put, List.setIfInBounds_toArray, List.set_cons_zero, List.set_cons_succ]
        refine wpList_store_blk rfl h2 29 (.tmp 2) (.tmp 84) rfl rfl rfl rfl hiz (by simp [Value.oneCell']) ?_
        intro w11 h11 hg11
        simp only [Act.put]
        refine wpList_asg 3 (by rfl) rfl (.int .i64 4) rfl ?_
        simp only [Act.put, List.setIfInBounds_toArray, List.set_cons_zero, List.set_cons_succ]
        apply wpList_nil
        repeat go_step
        refine bodyPost_ret (results_ct rfl _ rfl (load_blk h11 Tryz.underlying29 rfl hiz)) rfl ?_
        refine ⟨zeroC, ?_, zeroC_in _, zeroC_sm, ?_, below_own hB hg11 hB.size (Nat.le_refl _)⟩
        · rw [hP.out.2, (parsed_no hno.out).2]
          rfl
        · rw [hP.out.1, (parsed_no hno.out).1]
          rfl
theorem parseC_any (w : World) (A : Option Addr) (n c : Nat) (l : List UInt8) (B : Nat) (h : Byt w B A n l) (hBw : B ≤ w.heap.size) (hn : n ≤ 5000) : Calls Tryz.prog 6 #[.slice A n c] w fun e w' => ∃ c : CfgV, e = .returned (.tuple #[.agg (cfgC c), .int .i64 (parseE l)]) ∧ CfgIn w' c ∧ CfgSm c ∧ c.w = parseW l ∧ Below w.heap.size w w' :=
  parseC_core w A n c l B h hBw hn _ _ ⟨rfl, rfl⟩
end Go.Proofs.YtecmhakapomepaaGreat
