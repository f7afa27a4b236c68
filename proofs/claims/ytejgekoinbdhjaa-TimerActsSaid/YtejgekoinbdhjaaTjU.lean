/- timer: light. -/
import Derived.Test.YtejgekoinbdhjaaTiT
import Derived.Test.YtejgekoinbdhjaaAct3
namespace Go.Proofs.Ytejgekoinbdhjaa
set_option linter.unusedVariables false
open Go Go.RowKit Go.Maps

def lightF : List Act3 → Int → Bool
  | [], s => decide (s ≤ 4000)
  | a :: l, s => if a.k = 3 ∧ 0 < a.n then (if 2000 < a.n then false else lightF l (s + a.n)) else lightF l s
def lightB (rs : List Act3) : Bool := if 150 < rs.length then false else lightF rs 0
theorem lightF_le : ∀ {rs : List Act3} {s : Int}, lightF rs s = true → ∀ a ∈ rs, a.k = 3 → a.n ≤ 2000
  | [], _, _, a, ha, _ => by cases ha
  | x :: l, s, h, a, ha, hk => by
    unfold lightF at h
    split at h
    · split at h
      · cases h
      · rcases List.mem_cons.1 ha with rfl | ha
        · omega
        · exact lightF_le h a ha hk
    · rename_i hn
      rcases List.mem_cons.1 ha with rfl | ha
      · have : ¬ 0 < a.n := fun q => hn ⟨hk, q⟩
        omega
      · exact lightF_le h a ha hk
theorem light_le {rs : List Act3} (h : lightB rs = true) : rs.length ≤ 150 ∧ ∀ a ∈ rs, a.k = 3 → a.n ≤ 2000 := by
  unfold lightB at h
  split at h
  · cases h
  · exact ⟨by omega, lightF_le h⟩
theorem lightF_skip {rs : List Act3} {k : Nat} {a : Act3} {s : Int} (ha : rs[k]? = some a) (h : ¬ (a.k = 3 ∧ 0 < a.n)) : lightF (rs.drop k) s = lightF (rs.drop (k + 1)) s := by
  obtain ⟨hl, rfl⟩ := List.getElem?_eq_some_iff.1 ha
  rw [List.drop_eq_getElem_cons hl, lightF, if_neg h]
theorem lightF_big {rs : List Act3} {k : Nat} {a : Act3} {s : Int} (ha : rs[k]? = some a) (h : a.k = 3 ∧ 0 < a.n) (hb : 2000 < a.n) : lightF (rs.drop k) s = false := by
  obtain ⟨hl, rfl⟩ := List.getElem?_eq_some_iff.1 ha
  rw [List.drop_eq_getElem_cons hl, lightF, if_pos h, if_pos hb]
theorem lightF_add {rs : List Act3} {k : Nat} {a : Act3} {s : Int} (ha : rs[k]? = some a) (h : a.k = 3 ∧ 0 < a.n) (hb : ¬ 2000 < a.n) : lightF (rs.drop k) s = lightF (rs.drop (k + 1)) (s + a.n) := by
  obtain ⟨hl, rfl⟩ := List.getElem?_eq_some_iff.1 ha
  rw [List.drop_eq_getElem_cons hl, lightF, if_pos h, if_neg hb]
set_option maxRecDepth 100000 in
set_option maxHeartbeats 4000000 in
theorem light13_any (w : World) (S : Nat → Prop) (A : Option Addr) (n c : Nat) (rs : List Act3) (hx : Seen act3K w S A n rs) (hS : ∀ b, S b → b < w.heap.size) :
    Calls Try.prog 66 #[.slice A n c] w fun e w' => e = .returned (.bool (lightB rs)) ∧ Below w.heap.size w w' := by
  have hl := Lib.hid hx.1
  go_enter Try.func66, Try.ntmps66
  by_cases hbig : 150 < n
  · have d1 : decide ((150 : Int) < n) = true := by simp; omega
    have e := Lib.hid (show lightB rs = false by unfold lightB; rw [if_pos (by rw [hl.out]; exact hbig)])
    go_wp2_with fail
    go_ret
    exact ⟨ret_bool e.out.symm, Below.refl _ _⟩
  have hn1 : n ≤ 150 := by omega
  have d1 : decide ((150 : Int) < n) = false := by simp; omega
  have e := Lib.hid (show lightB rs = lightF rs 0 by unfold lightB; rw [if_neg (by rw [hl.out]; exact hbig)])
  clear hbig
  go_wp2_with fail
  go_loopw [3, 11] (fun sv i wr => ∃ (k : Nat) (s : Int), k ≤ n ∧ i = .int .i64 (k : Int) ∧ sv = .int .i64 s ∧ 0 ≤ s ∧ s ≤ 2000 * k ∧ lightF rs 0 = lightF (rs.drop k) s ∧ Below w.heap.size w wr) (fun _ i _ => n - (intOf i).toNat)
  case atStart => exact ⟨0, 0, Nat.zero_le _, rfl, rfl, Int.le_refl _, by omega, rfl, Below.refl _ _⟩
  case round =>
  obtain ⟨k, s, hk, rfl, rfl, hs0, hs1, hkey, hB⟩ := hrel
  replace hkey := Lib.hid hkey
  have hz := hB.size
  by_cases hlt : k < n
  · obtain ⟨b, off, a, rfl, hb1, hka, hin, q0, q1, q2⟩ := act3_cells (hx.below hB hS) hlt
    have lb1 : b < wr.heap.size := Nat.lt_of_lt_of_le (hS _ hb1) hz
    have hki : (k : Int) < n := by omega
    have hin2 := hin.2.2
    replace hin := Lib.hid hin
    have hbx := (Below.refl wr.heap.size wr).alloc (Nat.le_refl _) (.cells #[.int .i64 a.k, .int .i64 a.id, .int .i64 a.n] 97)
    have hqx := Blk.new wr 97 #[.int .i64 a.k, .int .i64 a.id, .int .i64 a.n]
    go_upto_region 7 with (fail)
    clear q0 q1 q2
    generalize wr.alloc (.cells #[.int .i64 a.k, .int .i64 a.id, .int .i64 a.n] 97) = w3 at *
    have s0 : w3.cell? ⟨wr.heap.size, 0, none⟩ = some (.int .i64 a.k) := hqx.cellv 0 rfl
    have s2 : w3.cell? ⟨wr.heap.size, 2, none⟩ = some (.int .i64 a.n) := hqx.cellv 2 rfl
    have ltq := hqx.lt
    have hB3 := hB.trans (hbx.mono hz)
    clear hbx hqx
    by_cases hk3 : a.k = 3
    · by_cases hn0 : 0 < a.n
      · by_cases hbg : 2000 < a.n
        · have e2 := Lib.hid (show lightB rs = false by rw [e.out, hkey.out, lightF_big hka ⟨hk3, hn0⟩ hbg])
          replace hkey := True.intro
          replace e := True.intro
          have t1 : (a.k == 3) = true := by simpa using hk3
          have t2 : decide (0 < a.n) = true := by simpa using hn0
          have t3 : decide (2000 < a.n) = true := by simpa using hbg
          clear hk3 hn0 hbg
          go_wp2_with fail
          go_ret
          exact ⟨ret_bool e2.out.symm, hB3⟩
        · have e2 := Lib.hid (lightF_add (s := s) hka ⟨hk3, hn0⟩ hbg)
          have t1 : (a.k == 3) = true := by simpa using hk3
          have t2 : decide (0 < a.n) = true := by simpa using hn0
          have t3 : decide (2000 < a.n) = false := by simp; omega
          clear hk3
          have kw : IntKind.i64.wrap (s + a.n) = s + a.n := IntWalk.i64_in _ (by omega)
          go_wp2_with fail
          exact ⟨⟨k + 1, s + a.n, by omega, by go_num, rfl, by omega, by omega, by rw [hkey.out, e2.out], hB3⟩, by simp [intOf]; omega⟩
      · have e2 := Lib.hid (lightF_skip (s := s) hka fun q => hn0 q.2)
        have t1 : (a.k == 3) = true := by simpa using hk3
        have t2 : decide (0 < a.n) = false := by simp; omega
        clear hk3
        go_wp2_with fail
        exact ⟨⟨k + 1, s, by omega, by go_num, rfl, by omega, by omega, by rw [hkey.out, e2.out], hB3⟩, by simp [intOf]; omega⟩
    · have e2 := Lib.hid (lightF_skip (s := s) hka fun q => hk3 q.1)
      have t1 : (a.k == 3) = false := by simpa using hk3
      clear hk3
      go_wp2_with fail
      exact ⟨⟨k + 1, s, by omega, by go_num, rfl, by omega, by omega, by rw [hkey.out, e2.out], hB3⟩, by simp [intOf]; omega⟩
  · obtain rfl : k = n := by omega
    have e2 : lightB rs = decide (s ≤ 4000) := by rw [e.out, hkey.out, List.drop_of_length_le (by rw [hl.out]; exact Nat.le_refl _)]; rfl
    replace e2 := Lib.hid e2
    replace e := True.intro
    replace hkey := True.intro
    go_wp2_with fail
    go_ret
    exact ⟨ret_bool e2.out.symm, hB⟩
end Go.Proofs.Ytejgekoinbdhjaa
