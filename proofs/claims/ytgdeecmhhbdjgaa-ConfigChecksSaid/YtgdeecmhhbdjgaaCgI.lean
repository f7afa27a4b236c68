/- config: slices.ContainsFunc with what the function keeps; part 4, the document's part 4. -/
import Derived.Test.YtgdeecmhhbdjgaaCgH
namespace Go.Proofs.Ytgdeecmhhbdjgaa
set_option linter.unusedVariables false
open Go Go.RowKit Go.Maps

set_option maxRecDepth 100000 in
set_option maxHeartbeats 4000000 in
theorem index_vip (w : World) (A : Option Addr) (n c : Nat) (L : List VipV) (Inv : Nat → World → Prop) (Stop : World → Prop) (hn : n ≤ 1000000) (hL : L.length = n)
    (hS : ∀ k wr, Inv k wr → Seen vipK wr (fun b => b < wr.heap.size) A n L) (h0 : Inv 0 w)
    (hf : ∀ k a wr, Inv k wr → L[k]? = some a → Calls Try.prog 44 #[.agg #[.int .u32 a.ad, .int .i64 a.pct, .slice a.A a.n a.c]] wr fun e w' => ∃ r, e = .returned (.bool r) ∧ (r = true → Stop w') ∧ (r = false → Inv (k + 1) w')) :
    Calls Try.prog 63 #[.slice A n c, .func (.func 44) #[] #[]] w fun e w' => ∃ z : Int, e = .returned (.int .i64 z) ∧ ((0 ≤ z ∧ Stop w') ∨ (z = -1 ∧ Inv n w')) := by
  go_enter Try.func63, Try.ntmps63
  go_wp2_with fail
  go_loopw [8] (fun i wr => ∃ k : Nat, k ≤ n ∧ i = .int .i64 (k : Int) ∧ Inv k wr) (fun i _ => n - (intOf i).toNat)
  case atStart => exact ⟨0, Nat.zero_le _, rfl, h0⟩
  case round =>
  obtain ⟨k, hk, rfl, hI⟩ := hrel
  by_cases hlt : k < n
  · have hki : (k : Int) < n := by omega
    have hk0 : (0 : Int) ≤ k := by omega
    obtain ⟨b, off, a, e1, hb, ha, hok, r0, r1, r2⟩ := vip_cells (hS k wr hI) hlt
    subst e1
    have hc := hf k a wr hI ha
    go_wp2_with fail
    refine hc.mono ?_
    rintro e w2 ⟨r, rfl, h1, h2⟩
    cases r
    · have h3 := h2 rfl
      clear h1 h2 hc r0 r1 r2
      go_wp2_with fail
      exact ⟨⟨k + 1, by omega, by go_num, h3⟩, by simp [intOf]; omega⟩
    · have h3 := h1 rfl
      clear h1 h2 hc r0 r1 r2
      go_wp2_with fail
      go_ret
      exact ⟨_, rfl, .inl ⟨hk0, h3⟩⟩
  · obtain rfl : k = n := by omega
    go_wp2_with fail
    go_ret
    exact ⟨_, rfl, .inr ⟨rfl, hI⟩⟩
theorem contains_vip (w : World) (A : Option Addr) (n c : Nat) (L : List VipV) (Inv : Nat → World → Prop) (Stop : World → Prop) (hn : n ≤ 1000000) (hL : L.length = n)
    (hS : ∀ k wr, Inv k wr → Seen vipK wr (fun b => b < wr.heap.size) A n L) (h0 : Inv 0 w)
    (hf : ∀ k a wr, Inv k wr → L[k]? = some a → Calls Try.prog 44 #[.agg #[.int .u32 a.ad, .int .i64 a.pct, .slice a.A a.n a.c]] wr fun e w' => ∃ r, e = .returned (.bool r) ∧ (r = true → Stop w') ∧ (r = false → Inv (k + 1) w')) :
    Calls Try.prog 43 #[.slice A n c, .func (.func 44) #[] #[]] w fun e w' => ∃ r, e = .returned (.bool r) ∧ (r = true → Stop w') ∧ (r = false → Inv n w') := by
  go_enter Try.func43, Try.ntmps43
  go_wp2_with fail
  refine (index_vip w A n c L  Inv Stop hn hL hS h0 hf).mono ?_
  rintro e w2 ⟨z, rfl, hz⟩
  rcases hz with ⟨h1, h2⟩ | ⟨rfl, h2⟩
  · have d1 : decide ((0 : Int) ≤ z) = true := by simpa using h1
    go_wp2_with fail
    go_ret
    exact ⟨true, rfl, fun _ => h2, fun h => by cases h⟩
  · go_wp2_with fail
    go_ret
    exact ⟨false, rfl, (fun h => by cases h), fun _ => h2⟩
set_option maxRecDepth 100000 in
set_option maxHeartbeats 4000000 in
theorem index_bnd (w : World) (A : Option Addr) (n c : Nat) (L : List BndV) (y0 : Value) (Inv : Nat → World → Prop) (Stop : World → Prop) (hn : n ≤ 1000000) (hL : L.length = n)
    (hS : ∀ k wr, Inv k wr → Seen bndK wr (fun b => b < wr.heap.size) A n L) (h0 : Inv 0 w)
    (hf : ∀ k a wr, Inv k wr → L[k]? = some a → Calls Try.prog 65 #[.agg #[.int .i64 a.id, .int .u32 a.ad, .int .i64 a.wt], y0] wr fun e w' => ∃ r, e = .returned (.bool r) ∧ (r = true → Stop w') ∧ (r = false → Inv (k + 1) w')) :
    Calls Try.prog 77 #[.slice A n c, .func (.func 65) #[] #[y0]] w fun e w' => ∃ z : Int, e = .returned (.int .i64 z) ∧ ((0 ≤ z ∧ Stop w') ∨ (z = -1 ∧ Inv n w')) := by
  go_enter Try.func77, Try.ntmps77
  go_wp2_with fail
  go_loopw [8] (fun i wr => ∃ k : Nat, k ≤ n ∧ i = .int .i64 (k : Int) ∧ Inv k wr) (fun i _ => n - (intOf i).toNat)
  case atStart => exact ⟨0, Nat.zero_le _, rfl, h0⟩
  case round =>
  obtain ⟨k, hk, rfl, hI⟩ := hrel
  by_cases hlt : k < n
  · have hki : (k : Int) < n := by omega
    have hk0 : (0 : Int) ≤ k := by omega
    obtain ⟨b, off, a, e1, hb, ha, hok, r0, r1, r2⟩ := bnd_cells (hS k wr hI) hlt
    subst e1
    have hc := hf k a wr hI ha
    go_wp2_with fail
    refine hc.mono ?_
    rintro e w2 ⟨r, rfl, h1, h2⟩
    cases r
    · have h3 := h2 rfl
      clear h1 h2 hc r0 r1 r2
      go_wp2_with fail
      exact ⟨⟨k + 1, by omega, by go_num, h3⟩, by simp [intOf]; omega⟩
    · have h3 := h1 rfl
      clear h1 h2 hc r0 r1 r2
      go_wp2_with fail
      go_ret
      exact ⟨_, rfl, .inl ⟨hk0, h3⟩⟩
  · obtain rfl : k = n := by omega
    go_wp2_with fail
    go_ret
    exact ⟨_, rfl, .inr ⟨rfl, hI⟩⟩
theorem contains_bnd (w : World) (A : Option Addr) (n c : Nat) (L : List BndV) (y0 : Value) (Inv : Nat → World → Prop) (Stop : World → Prop) (hn : n ≤ 1000000) (hL : L.length = n)
    (hS : ∀ k wr, Inv k wr → Seen bndK wr (fun b => b < wr.heap.size) A n L) (h0 : Inv 0 w)
    (hf : ∀ k a wr, Inv k wr → L[k]? = some a → Calls Try.prog 65 #[.agg #[.int .i64 a.id, .int .u32 a.ad, .int .i64 a.wt], y0] wr fun e w' => ∃ r, e = .returned (.bool r) ∧ (r = true → Stop w') ∧ (r = false → Inv (k + 1) w')) :
    Calls Try.prog 67 #[.slice A n c, .func (.func 65) #[] #[y0]] w fun e w' => ∃ r, e = .returned (.bool r) ∧ (r = true → Stop w') ∧ (r = false → Inv n w') := by
  go_enter Try.func67, Try.ntmps67
  go_wp2_with fail
  refine (index_bnd w A n c L y0 Inv Stop hn hL hS h0 hf).mono ?_
  rintro e w2 ⟨z, rfl, hz⟩
  rcases hz with ⟨h1, h2⟩ | ⟨rfl, h2⟩
  · have d1 : decide ((0 : Int) ≤ z) = true := by simpa using h1
    go_wp2_with fail
    go_ret
    exact ⟨true, rfl, fun _ => h2, fun h => by cases h⟩
  · go_wp2_with fail
    go_ret
    exact ⟨false, rfl, (fun h => by cases h), fun _ => h2⟩
set_option maxRecDepth 100000 in
set_option maxHeartbeats 4000000 in
theorem index_site (w : World) (A : Option Addr) (n c : Nat) (L : List SiteV) (y0 y1 : Value) (Inv : Nat → World → Prop) (Stop : World → Prop) (hn : n ≤ 1000000) (hL : L.length = n)
    (hS : ∀ k wr, Inv k wr → Seen siteK wr (fun b => b < wr.heap.size) A n L) (h0 : Inv 0 w)
    (hf : ∀ k a wr, Inv k wr → L[k]? = some a → Calls Try.prog 48 #[.agg #[.int .i64 a.id, .int .u32 a.ad, .int .i64 a.cost], y0, y1] wr fun e w' => ∃ r, e = .returned (.bool r) ∧ (r = true → Stop w') ∧ (r = false → Inv (k + 1) w')) :
    Calls Try.prog 68 #[.slice A n c, .func (.func 48) #[] #[y0, y1]] w fun e w' => ∃ z : Int, e = .returned (.int .i64 z) ∧ ((0 ≤ z ∧ Stop w') ∨ (z = -1 ∧ Inv n w')) := by
  go_enter Try.func68, Try.ntmps68
  go_wp2_with fail
  go_loopw [8] (fun i wr => ∃ k : Nat, k ≤ n ∧ i = .int .i64 (k : Int) ∧ Inv k wr) (fun i _ => n - (intOf i).toNat)
  case atStart => exact ⟨0, Nat.zero_le _, rfl, h0⟩
  case round =>
  obtain ⟨k, hk, rfl, hI⟩ := hrel
  by_cases hlt : k < n
  · have hki : (k : Int) < n := by omega
    have hk0 : (0 : Int) ≤ k := by omega
    obtain ⟨b, off, a, e1, hb, ha, hok, r0, r1, r2⟩ := site_cells (hS k wr hI) hlt
    subst e1
    have hc := hf k a wr hI ha
    go_wp2_with fail
    refine hc.mono ?_
    rintro e w2 ⟨r, rfl, h1, h2⟩
    cases r
    · have h3 := h2 rfl
      clear h1 h2 hc r0 r1 r2
      go_wp2_with fail
      exact ⟨⟨k + 1, by omega, by go_num, h3⟩, by simp [intOf]; omega⟩
    · have h3 := h1 rfl
      clear h1 h2 hc r0 r1 r2
      go_wp2_with fail
      go_ret
      exact ⟨_, rfl, .inl ⟨hk0, h3⟩⟩
  · obtain rfl : k = n := by omega
    go_wp2_with fail
    go_ret
    exact ⟨_, rfl, .inr ⟨rfl, hI⟩⟩
theorem contains_site (w : World) (A : Option Addr) (n c : Nat) (L : List SiteV) (y0 y1 : Value) (Inv : Nat → World → Prop) (Stop : World → Prop) (hn : n ≤ 1000000) (hL : L.length = n)
    (hS : ∀ k wr, Inv k wr → Seen siteK wr (fun b => b < wr.heap.size) A n L) (h0 : Inv 0 w)
    (hf : ∀ k a wr, Inv k wr → L[k]? = some a → Calls Try.prog 48 #[.agg #[.int .i64 a.id, .int .u32 a.ad, .int .i64 a.cost], y0, y1] wr fun e w' => ∃ r, e = .returned (.bool r) ∧ (r = true → Stop w') ∧ (r = false → Inv (k + 1) w')) :
    Calls Try.prog 47 #[.slice A n c, .func (.func 48) #[] #[y0, y1]] w fun e w' => ∃ r, e = .returned (.bool r) ∧ (r = true → Stop w') ∧ (r = false → Inv n w') := by
  go_enter Try.func47, Try.ntmps47
  go_wp2_with fail
  refine (index_site w A n c L y0 y1 Inv Stop hn hL hS h0 hf).mono ?_
  rintro e w2 ⟨z, rfl, hz⟩
  rcases hz with ⟨h1, h2⟩ | ⟨rfl, h2⟩
  · have d1 : decide ((0 : Int) ≤ z) = true := by simpa using h1
    go_wp2_with fail
    go_ret
    exact ⟨true, rfl, fun _ => h2, fun h => by cases h⟩
  · go_wp2_with fail
    go_ret
    exact ⟨false, rfl, (fun h => by cases h), fun _ => h2⟩
end Go.Proofs.Ytgdeecmhhbdjgaa
