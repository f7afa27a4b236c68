/- timer: a table in plain terms; fresh at any table. -/
import Derived.Test.YtejgekoinbdhjaaTiJ
import Derived.Test.YtejgekoinbdhjaaTiL
import Derived.Test.YtejgekoinbdhjaaIntK
namespace Go.Proofs.Ytejgekoinbdhjaa
set_option linter.unusedVariables false
open Go Go.RowKit Go.Maps

def SloIn (mo co : Int) (s : Slo) : Prop := 0 ≤ s.id ∧ s.id < mo ∧ 0 < s.od ∧ s.od ≤ co
/-- the entries A and the heap H of a table in which M is armed, in that order. -/
structure GoodT (mo no co : Int) (M A H : List Slo) : Prop where
  hmo : 1 ≤ mo ∧ mo ≤ 1024
  hco : 0 ≤ co
  perm : A.Perm M
  asc : M.Pairwise fun a b => a.od < b.od
  ids : M.Pairwise fun a b => a.id ≠ b.id
  late : ∀ s ∈ M, no < s.ex
  rng : ∀ s ∈ H, SloIn mo co s
  held : Held A H
  few : (H.length : Int) ≤ co
/-- a table that lies in blocks of which X is so. -/
def TabX (w : World) (X : Nat → Prop) (g : Nat) (mo no co : Int) (M : List Slo) : Prop :=
  ∃ b v A H, TabV w g b mo no co v A H ∧ GoodT mo no co M A H ∧ (∀ k, k = g ∨ k = b ∨ v.ownBlock = some k → X k) ∧ ∀ k, X k → k < w.heap.size
section
variable {w w' : World} {X Y : Nat → Prop} {g : Nat} {mo no co : Int} {M : List Slo}
theorem TabX.chg (h : TabX w X g mo no co M) (hc : Chg w w' Y) (hd : ∀ k, X k → ¬ Y k) : TabX w' X g mo no co M := by
  obtain ⟨b, v, A, H, h1, h2, h3, h4⟩ := h
  exact ⟨b, v, A, H, h1.chg hc (hd _ (h3 _ (.inl rfl))) (hd _ (h3 _ (.inr (.inl rfl)))) (fun k e => hd _ (h3 _ (.inr (.inr e)))), h2, h3, fun k hk => Nat.lt_of_lt_of_le (h4 k hk) hc.size⟩
theorem TabX.nx (h : TabX w X g mo no co M) (hb : Below w.heap.size w w') : TabX w' X g mo no co M := h.chg (Chg.of_below (X := fun _ => False) hb) fun _ _ q => q
theorem TabX.lt (h : TabX w X g mo no co M) : ∀ k, X k → k < w.heap.size := by
  obtain ⟨b, v, A, H, h1, h2, h3, h4⟩ := h
  exact h4
theorem TabX.mine (h : TabX w X g mo no co M) : X g := by
  obtain ⟨b, v, A, H, h1, h2, h3, h4⟩ := h
  exact h3 _ (.inl rfl)
theorem TabX.good (h : TabX w X g mo no co M) : (1 ≤ mo ∧ mo ≤ 1024) ∧ 0 ≤ co ∧ (M.Pairwise fun a b => a.od < b.od) ∧ (M.Pairwise fun a b => a.id ≠ b.id) ∧ (∀ s ∈ M, no < s.ex) ∧ ∀ s ∈ M, SloIn mo co s := by
  obtain ⟨b, v, A, H, h1, h2, h3, h4⟩ := h
  exact ⟨h2.hmo, h2.hco, h2.asc, h2.ids, h2.late, fun s hs => h2.rng s (h2.held.2 s (h2.perm.mem_iff.2 hs))⟩
theorem held_nil : Held [] [] := ⟨fun i _ hi => by simp at hi, by simp⟩
theorem TabX.made {b : Nat} (h : TabV w g b mo 0 0 (.slice none 0 0) [] []) (hm : 1 ≤ mo ∧ mo ≤ 1024) : TabX w (fun k => k = g ∨ k = b) g mo 0 0 [] := by
  refine ⟨b, _, [], [], h, ⟨hm, Int.le_refl _, List.Perm.nil, .nil, .nil, by simp, by simp, held_nil, by simp⟩, ?_, ?_⟩
  · rintro k (h | h | h)
    · exact .inl h
    · exact .inr h
    · cases h
  · rintro k (rfl | rfl)
    · exact h.ltg
    · exact h.ltb
end
theorem headV_nil : headV [] = .tuple #[.agg #[.int .i64 0, .int .i64 0, .int .i64 0], .bool false] := rfl
set_option maxRecDepth 100000 in
set_option maxHeartbeats 2000000 in
theorem freshNil (w : World) (g b : Nat) (mo no co : Int) (A : List Slo) (h : TabV w g b mo no co (.slice none 0 0) A []) :
    Calls Try.prog 137 #[.pointer (some ⟨g, 0, none⟩)] w fun e w' => e = .returned (headV []) ∧ TabV w' g b mo no co (.slice none 0 0) A [] ∧ Below w.heap.size w w' := by
  have hx := Blk.new w 198 #[.int .i64 0, .int .i64 0, .int .i64 0]
  have h1 := h.alloc (.cells #[.int .i64 0, .int .i64 0, .int .i64 0] 198)
  have hB := (Below.refl w.heap.size w).alloc (Nat.le_refl _) (.cells #[.int .i64 0, .int .i64 0, .int .i64 0] 198)
  go_enter Try.func137, Try.ntmps137
  go_wp2_with fail
  generalize w.alloc (.cells #[.int .i64 0, .int .i64 0, .int .i64 0] 198) = w1 at *
  have c4 : w1.cell? ⟨g, 4, none⟩ = some (.slice none 0 0) := h1.blk.cellv 4 rfl
  have ltg := h1.ltg
  have lty : w.heap.size < w1.heap.size := hx.lt
  refine wp_loop_rounds 1 ?_
  rw [rounds_succ]
  go_wp2_with (refine wpList_store_blk rfl hx 198 (.tmp 2) (.tmp 28) rfl rfl rfl rfl got_slot (by simp [Value.oneCell']) ?_; intro w3 hX3 hg3)
  try rw [Exit.noGoto_ret]
  refine bodyPost_ret (results_ct rfl _ rfl (load_blk hX3 Try.underlying198 rfl got_slot)) rfl ?_
  have hB3 := below_own hB hg3 hB.size (Nat.le_refl _)
  exact ⟨rfl, h.nx hB3, hB3⟩
theorem fresh_gen (w : World) (g b : Nat) (mo no co : Int) (v : Value) (A H : List Slo) (h : TabV w g b mo no co v A H) (hok : ∀ s ∈ H, SloOk s) (hn : H.length ≤ 1000000) :
    Calls Try.prog 137 #[.pointer (some ⟨g, 0, none⟩)] w fun e w' => ∃ v', e = .returned (headV (freshL H.length A H)) ∧ TabV w' g b mo no co v' A (freshL H.length A H) ∧ v'.ownBlock = v.ownBlock ∧ Chg w w' (fun k => k = g ∨ v.ownBlock = some k) := by
  have hform : (v = .slice none 0 0 ∧ H = []) ∨ ∃ r cap, v = .slice (some ⟨r, 0, none⟩) H.length cap := by
    rcases h.row.1.2 with ⟨h1, h2⟩ | ⟨r, cap, cur, e, _⟩
    · exact .inl ⟨h1, by
        have := h2
        cases H with
        | nil => rfl
        | cons a H => simp at this⟩
    · exact .inr ⟨r, cap, e⟩
  rcases hform with ⟨rfl, rfl⟩ | ⟨r, cap, rfl⟩
  · refine (freshNil w g b mo no co A h).mono ?_
    rintro e w' ⟨rfl, h1, h2⟩
    exact ⟨_, rfl, h1, rfl, Chg.of_below h2⟩
  · refine (fresh_any w g b mo no co A H r cap H.length h hok hn).mono ?_
    rintro e w' ⟨rfl, h1, h2⟩
    exact ⟨_, rfl, h1, rfl, h2.mono fun i _ q => q.elim .inl fun e => .inr (by rw [e]; rfl)⟩
end Go.Proofs.Ytejgekoinbdhjaa
