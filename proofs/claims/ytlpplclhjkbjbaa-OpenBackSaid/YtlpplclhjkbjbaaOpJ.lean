/- open: params. -/
import Derived.Test.YtlpplclhjkbjbaaOpI
namespace Go.Proofs.Ytlpplclhjkbjbaa
set_option linter.unusedVariables false
open Go.RowKit

theorem results_tmp3 {fn : Func} {t u v : Tmp} (h : fn.results = #[.tmp t, .tmp u, .tmp v]) (tmps : Array Value) (P : Program) (w : World) : (results fn tmps).run P w = .ok (.tuple #[tmps.getD t undef, tmps.getD u undef, tmps.getD v undef]) w := by
  simp [results, h]
theorem grown_new {a b c : World} {g g2 : Nat} (h : a.grownBy b (some g)) (k : b.grownBy c (some g2)) (hg2 : a.heap.size ≤ g2) : a.grownBy c (some g) :=
  ⟨k.os.trans h.os, k.tape.trans h.tape, k.output.trans h.output, Nat.le_trans h.size k.size, fun i hi hne => (k.block i (Nat.lt_of_lt_of_le hi h.size) (by simp; omega)).trans (h.block i hi hne)⟩
theorem tk_both (s : St) (m : Int) : (tk s m).2.length + (tk s m).1.l.length ≤ s.l.length := by
  unfold tk
  split
  · simp
  · split
    · simp
    · split
      · simp
      · simp; omega
theorem cp_both (s : St) : (cpV s).length + (cpS3 s).l.length ≤ s.l.length :=
  Nat.le_trans (tk_both (cpS2 s) (cpN s)) (Nat.le_trans (tk_le (cpS1 s) 1) (tk_le s 1))
theorem seqF_len {D : Type} {rd : St → D} {nx : St → St} (hless : ∀ s, (nx s).e = 0 → (nx s).l.length < s.l.length) : ∀ (n : Nat) (s : St) (ds : List D), seqF rd nx n s = some ds → ds.length ≤ s.l.length
  | 0, s, ds, h => by unfold seqF at h; cases h; simp
  | n + 1, s, ds, h => by
    unfold seqF at h
    split at h
    · split at h
      · rename_i h1
        cases hx : seqF rd nx n (nx s) with
        | none => rw [hx] at h; cases h
        | some es =>
          rw [hx] at h
          cases h
          have h2 := seqF_len hless n (nx s) es hx
          have h3 := hless s h1
          simp; omega
      · cases h
    · cases h; simp
theorem capsS_len {s : St} {ds : List (Int × List UInt8)} (h : capsS s = some ds) : ds.length ≤ s.l.length := seqF_len (fun _ h => (cp_less h).1) _ s ds h
abbrev CapD := Int × List UInt8
/-- the parameters of a body, or a fault's Sub. -/
def parF : Nat → St → Except Int (List CapD)
  | 0, _ => .ok []
  | n + 1, s => if 0 < leftV s then (if (cpS3 s).e ≠ 0 then .error 0 else if cpT s ≠ 2 then .error 4 else match capsS ⟨cpV s, 0, 0⟩ with
      | none => .error 0
      | some l => (parF n (cpS3 s)).map (l ++ ·)) else .ok []
theorem parF_fuel : ∀ (n m : Nat) (s : St), s.l.length < n → s.l.length < m → parF n s = parF m s
  | 0, _, _, h, _ => absurd h (by omega)
  | _ + 1, 0, _, _, h => absurd h (by omega)
  | n + 1, m + 1, s, h, h' => by
    unfold parF
    by_cases h1 : (cpS3 s).e = 0
    · have := (cp_less h1).1
      rw [parF_fuel n m (cpS3 s) (by omega) (by omega)]
    · simp [h1]
def parS (s : St) : Except Int (List CapD) := parF (s.l.length + 1) s
theorem parS_eq (s : St) : parS s = if 0 < leftV s then (if (cpS3 s).e ≠ 0 then .error 0 else if cpT s ≠ 2 then .error 4 else match capsS ⟨cpV s, 0, 0⟩ with
      | none => .error 0
      | some l => (parS (cpS3 s)).map (l ++ ·)) else .ok [] := by
  have e : parS s = if 0 < leftV s then (if (cpS3 s).e ≠ 0 then .error 0 else if cpT s ≠ 2 then .error 4 else match capsS ⟨cpV s, 0, 0⟩ with
      | none => .error 0
      | some l => (parF s.l.length (cpS3 s)).map (l ++ ·)) else .ok [] := rfl
  rw [e]
  by_cases h1 : (cpS3 s).e = 0
  · have := (cp_less h1).1
    rw [parF_fuel s.l.length ((cpS3 s).l.length + 1) (cpS3 s) (by omega) (by omega)]
    rfl
  · simp [h1]
theorem parS_end {s : St} (h : ¬ 0 < leftV s) : parS s = .ok [] := by rw [parS_eq, if_neg h]
theorem parS_short {s : St} (h : 0 < leftV s) (h1 : (cpS3 s).e ≠ 0) : parS s = .error 0 := by rw [parS_eq, if_pos h, if_pos h1]
theorem parS_kind {s : St} (h : 0 < leftV s) (h1 : (cpS3 s).e = 0) (h2 : cpT s ≠ 2) : parS s = .error 4 := by rw [parS_eq, if_pos h, if_neg (by simpa using h1), if_pos h2]
theorem parS_lack {s : St} (h : 0 < leftV s) (h1 : (cpS3 s).e = 0) (h2 : cpT s = 2) (h3 : capsS ⟨cpV s, 0, 0⟩ = none) : parS s = .error 0 := by rw [parS_eq, if_pos h, if_neg (by simpa using h1), if_neg (by simpa using h2), h3]
theorem parS_go {s : St} {l : List CapD} (h : 0 < leftV s) (h1 : (cpS3 s).e = 0) (h2 : cpT s = 2) (h3 : capsS ⟨cpV s, 0, 0⟩ = some l) : parS s = (parS (cpS3 s)).map (l ++ ·) := by rw [parS_eq, if_pos h, if_neg (by simpa using h1), if_neg (by simpa using h2), h3]
theorem map_error {α β : Type} (x : Int) (f : α → β) : (Except.error x : Except Int α).map f = .error x := rfl
theorem map_ok {α β : Type} (x : α) (f : α → β) : (Except.ok x : Except Int α).map f = .ok (f x) := rfl
def ParP (T : TypeId) (w w' : World) (e : Ending) : Except Int (List CapD) → Prop
  | .error sub => e = .returned (.tuple #[.slice none 0 0, .int .i64 sub, .bool false])
  | .ok ds => ∃ v rs, e = .returned (.tuple #[v, .int .i64 0, .bool true]) ∧ Rows capK w' w.heap.size w.heap.size T v rs ∧ rs.map capKey = ds
set_option maxRecDepth 100000 in
set_option maxHeartbeats 8000000 in
theorem params_any (w : World) (g : Nat) (s0 : St) (h : Src w g s0) (h0 : s0.e = 0) (hlim : s0.l.length ≤ 10000000) :
    Calls Try.prog 95 #[.pointer (some ⟨g, 0, none⟩)] w fun e w' => w.grownBy w' (some g) ∧ ParP 60 w w' e (parS s0) := by
  have hg0 := h.lt
  have hrow := Rows.nil (R := capK) w w.heap.size w.heap.size 60
  have hG := grown_refl w (some g)
  go_enter Try.func95, Try.ntmps95
  go_wp2_with fail
  go_loopw [5, 6, 7, 8, 9] (fun v _ _ _ _ wr => ∃ s rs, Src wr g s ∧ s.e = 0 ∧ s.l.length + rs.length ≤ 10000000 ∧ Rows capK wr w.heap.size w.heap.size 60 v rs ∧ w.grownBy wr (some g) ∧ parS s0 = (parS s).map (rs.map capKey ++ ·)) (fun _ _ _ _ _ wr => srcLen wr g)
  case atStart => exact ⟨s0, [], h, h0, by simpa using hlim, hrow, hG, by cases parS s0 <;> rfl⟩
  case round =>
  clear h hrow hG
  obtain ⟨s, rs, hsrc, hse, hlr, hrow, hG, hsp⟩ := hrel
  have hlt := hsrc.lt
  have hln := Lib.hid hsrc.srcLen
  replace hsp := Lib.hid hsp
  go_wp2_with fail
  refine (left_any wr g s hsrc).mono ?_
  rintro e w2 ⟨rfl, rfl⟩
  by_cases hl : 0 < leftV s
  rotate_left
  · have hl2 : leftV s ≤ 0 := by omega
    have hend := Lib.hid (parS_end (s := s) (by omega))
    go_wp2_with fail
    try simp only [Exit.inBlock, Exit.then]
    refine bodyPost_ret (results_tmp3 rfl _ _ _) rfl ?_
    refine ⟨hG, ?_⟩
    rw [hsp.out, hend.out, map_ok, List.append_nil]
    exact ⟨_, rs, rfl, hrow, rfl⟩
  go_wp2_with fail
  refine (u8_any wr g s hsrc).mono ?_
  rintro e w3 ⟨rfl, hsrc1, hg3⟩
  have eT : numV s 1 = cpT s := rfl
  have eS1 : (tk s 1).1 = cpS1 s := rfl
  rw [eT]
  rw [eS1] at hsrc1
  have hgk : ∀ k, some g = some k → k < w.heap.size := fun k e => by cases e; exact hg0
  replace hrow := hrow.kept hg3 hgk (Nat.le_refl _)
  replace hG := grown_trans hG hg3
  clear hg3 hsrc eT eS1
  go_wp2_with fail
  refine (u8_any w3 g (cpS1 s) hsrc1).mono ?_
  rintro e w4 ⟨rfl, hsrc2, hg4⟩
  have eN : numV (cpS1 s) 1 = cpN s := rfl
  have eS2 : (tk (cpS1 s) 1).1 = cpS2 s := rfl
  rw [eN]
  rw [eS2] at hsrc2
  replace hrow := hrow.kept hg4 hgk (Nat.le_refl _)
  replace hG := grown_trans hG hg4
  clear hg4 hsrc1 eN eS2
  go_wp2_with fail
  refine (sub_any w4 g (cpS2 s) hsrc2 (cpN s)).mono ?_
  rintro e w5 ⟨g2, rfl, hg2, hin, hsrc3, hg5⟩
  have eV : (tk (cpS2 s) (cpN s)).2 = cpV s := rfl
  have eS : (tk (cpS2 s) (cpN s)).1 = cpS3 s := rfl
  rw [eV] at hin
  rw [eS] at hsrc3
  have hz4 := hG.size
  have hz5 := hg5.size
  have hlt5 := hsrc3.lt
  clear eV eS hsrc2
  go_wp2_with fail
  refine (err_any w5 g (cpS3 s) hsrc3).mono ?_
  rintro e w6 ⟨rfl, rfl⟩
  by_cases hE : (cpS3 s).e = 0
  rotate_left
  · have hb : ((cpS3 s).e != 0) = true := by simpa using hE
    have hx := Lib.hid (parS_short hl hE)
    replace hE := Lib.hid hE
    go_wp2_with fail
    try simp only [Exit.inBlock, Exit.then]
    refine bodyPost_ret (results_tmp3 rfl _ _ _) rfl ?_
    refine ⟨grown_trans hG hg5, ?_⟩
    rw [hsp.out, hx.out, map_error]
    rfl
  have hb : ((cpS3 s).e != 0) = false := by simpa using hE
  have hless := (cp_less hE).1
  have hboth := cp_both s
  have hE' := Lib.hid hE
  rw [hE]
  clear hE hb
  by_cases hK : cpT s = 2
  rotate_left
  · have hb : (cpT s != 2) = true := by simpa using hK
    have hx := Lib.hid (parS_kind hl hE'.out hK)
    replace hK := Lib.hid hK
    go_wp2_with fail
    try simp only [Exit.inBlock, Exit.then]
    refine bodyPost_ret (results_tmp3 rfl _ _ _) rfl ?_
    refine ⟨grown_trans hG hg5, ?_⟩
    rw [hsp.out, hx.out, map_error]
    rfl
  have hb : (cpT s != 2) = false := by simpa using hK
  replace hK := Lib.hid hK
  go_wp2_with fail
  refine (caps_any w5 g2 ⟨cpV s, 0, 0⟩ hin rfl (by show (cpV s).length ≤ _; omega)).mono ?_
  rintro e w7 ⟨hg7, hP⟩
  have hg57 := grown_new hg5 hg7 hg2
  have hsrc7 := hsrc3.grown hg7 (by omega)
  have hrow7 := hrow.kept hg57 hgk (Nat.le_refl _)
  have hG7 := grown_trans hG hg57
  have hown := hrow.own
  have hz7 := hg57.size
  cases hc : capsS ⟨cpV s, 0, 0⟩ with
  | none =>
    rw [hc] at hP
    obtain ⟨A1, n1, c1, rfl⟩ := hP
    have hx := Lib.hid (parS_lack hl hE'.out hK.out hc)
    go_wp2_with fail
    try simp only [Exit.inBlock, Exit.then]
    refine bodyPost_ret (results_tmp3 rfl _ _ _) rfl ?_
    refine ⟨hG7, ?_⟩
    rw [hsp.out, hx.out, map_error]
    rfl
  | some ds =>
    rw [hc] at hP
    obtain ⟨v1, rs1, rfl, hrow1, hk1⟩ := hP
    obtain ⟨A1, c1, rfl, _, _, hS1⟩ := hrow1.seen (Nat.le_refl _)
    have hx := Lib.hid (parS_go hl hE'.out hK.out hc)
    have hlen : rs1.length ≤ (cpV s).length := by
      have := capsS_len hc
      rw [← hk1, List.length_map] at this
      exact this
    have hok : ∀ e ∈ rs1, capK.ok w7 (fun b => w.heap.size ≤ b ∧ b < w7.heap.size ∧ u5.ownBlock ≠ some b) e := fun e he => capK.more (hrow1.2 e he) fun b hb => ⟨by omega, hb.2.1, fun e2 => by have := (hown b e2).2; omega⟩
    replace hk1 := Lib.hid hk1
    go_wp2_with (at_builtin; refine wpList_rows cap_ok rfl (.tmp 33) (.tmp 34) rfl hrow7 rfl rfl hS1 hok (by unfold maxLen; omega) (by omega) (by omega) ?_; intro v9 w9 hrow9 hg9)
    have hb9 := hrow7.below_app hg9 (by omega)
    have hsrc9 := hsrc7.below hb9 hg0
    refine ⟨⟨cpS3 s, rs ++ rs1, hsrc9, hE'.out, by simp; omega, hrow9, grown_below hG7 hb9, ?_⟩, ?_⟩
    · rw [hsp.out, hx.out, List.map_append, hk1.out]
      cases parS (cpS3 s) with
      | error x => rfl
      | ok y => rw [map_ok, map_ok, map_ok, List.append_assoc]
    · rw [hsrc9.srcLen, hln.out]; exact hless
end Go.Proofs.Ytlpplclhjkbjbaa
