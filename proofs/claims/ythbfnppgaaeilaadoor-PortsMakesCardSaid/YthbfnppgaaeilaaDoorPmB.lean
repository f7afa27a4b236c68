/- ports: the document's summed, MakeTcp, MakeUdp. -/
import Derived.Test.YthbfnppgaaeilaaDoorPmA
namespace Go.Proofs.YthbfnppgaaeilaaDoor
set_option linter.unusedVariables false
open Go Go.RowKit

theorem setAt2 (l : List UInt8) (k : Nat) (x : Int) (h : k + 2 ≤ l.length) : (l.set k (byOf (x / 256))).set (k + 1) (byOf x) = setAt l k (be x 2) := by
  rw [be2]
  unfold setAt
  apply List.ext_getElem?
  intro j
  rw [List.getElem?_set, List.getElem?_set]
  simp only [List.length_set, List.length_cons, List.length_nil]
  by_cases h1 : j < k
  · rw [if_neg (by omega), if_neg (by omega), List.getElem?_append_left (by rw [List.length_take]; omega), List.getElem?_take, if_pos h1]
  · by_cases h2 : j = k
    · subst h2
      rw [if_neg (by omega), if_pos rfl, if_pos (by omega), List.getElem?_append_right (by rw [List.length_take]; omega), List.length_take, Nat.min_eq_left (by omega), Nat.sub_self]
      rfl
    · by_cases h3 : j = k + 1
      · subst h3
        rw [if_pos rfl, if_pos (by omega), List.getElem?_append_right (by rw [List.length_take]; omega), List.length_take, Nat.min_eq_left (by omega), show k + 1 - k = 1 by omega]
        rfl
      · rw [if_neg (by omega), if_neg (by omega), List.getElem?_append_right (by rw [List.length_take]; omega), List.length_take, Nat.min_eq_left (by omega), List.getElem?_append_right (by simp; omega), List.getElem?_drop]
        congr 1
        simp
        omega
theorem sent_ref (p s d : Int) (b : List UInt8) : sentV p s d b = if 65535 - foldV (csum b % 65536 + pseudo s d p b.length % 65536) = 0 ∧ p = 17 then 65535 else 65535 - foldV (csum b % 65536 + pseudo s d p b.length % 65536) := by
  have h1 := foldV_lo (csum b % 65536 + pseudo s d p b.length % 65536) (by omega)
  have h2 := foldV_hi (csum b % 65536 + pseudo s d p b.length % 65536)
  unfold sentV
  rw [Int.emod_eq_of_lt h1 (by omega)]
set_option maxRecDepth 100000 in
set_option maxHeartbeats 8000000 in
theorem summed_any (p s d sp dp pr : Int) (k : Nat) (X : Option Addr) (m c : Nat) (b : List UInt8) (w : World) (hm : m ≤ 100000) (hk : k + 2 ≤ m) (hP : Byt w w.heap.size X m b) (s0 : 0 ≤ s) (s1 : s ≤ 4294967295) (d0 : 0 ≤ d) (d1 : d ≤ 4294967295) :
    Calls Tryd.prog 40 #[.slice X m c, .int .i64 (k : Int), .agg #[.int .i64 p, .int .u32 s, .int .u32 d, .int .i64 sp, .int .i64 dp], .int .i64 pr] w fun e w' => ∃ v, e = .returned v ∧ OwnB w' w.heap.size v m (setAt b k (be (sentV pr s d b) 2)) ∧ Below w.heap.size w w' := by
  have hB := (Below.refl w.heap.size w).alloc (Nat.le_refl _) (.cells #[.int .i64 p, .int .u32 s, .int .u32 d, .int .i64 sp, .int .i64 dp] 42)
  have hq := Blk.new w 42 #[.int .i64 p, .int .u32 s, .int .u32 d, .int .i64 sp, .int .i64 dp]
  have hbl := hP.1
  have hsr := sent_ref pr s d b
  rw [hbl] at hsr
  go_enter Tryd.func40, Tryd.ntmps40
  go_upto_region 1 with (fail)
  generalize w.alloc (.cells #[.int .i64 p, .int .u32 s, .int .u32 d, .int .i64 sp, .int .i64 dp] 42) = w1 at *
  replace hP := hP.nx hB
  have lt0 := hq.lt
  have q0 : w1.cell? ⟨w.heap.size, 0, none⟩ = some (.int .i64 p) := hq.cellv 0 rfl
  have q1 : w1.cell? ⟨w.heap.size, 1, none⟩ = some (.int .u32 s) := hq.cellv 1 rfl
  have q2 : w1.cell? ⟨w.heap.size, 2, none⟩ = some (.int .u32 d) := hq.cellv 2 rfl
  have q3 : w1.cell? ⟨w.heap.size, 3, none⟩ = some (.int .i64 sp) := hq.cellv 3 rfl
  have q4 : w1.cell? ⟨w.heap.size, 4, none⟩ = some (.int .i64 dp) := hq.cellv 4 rfl
  have hS1 := foldV_lo (csum b % 65536 + pseudo s d pr m % 65536) (by omega)
  have hS2 := foldV_hi (csum b % 65536 + pseudo s d pr m % 65536)
  generalize hS : foldV (csum b % 65536 + pseudo s d pr m % 65536) = S at *
  replace hS := Lib.hid hS
  -- region 1: 0 1C 2 3 4 5 6 7 8 9C 10C 11 12
  try refine wp_region_noPanic ?_
  refine wp_region_lat (by kernel_rfl) ?_
  (refine lat_now 0 (by rfl) ?_ (by kernel_rfl) (fun _ _ _ h => h) ?_ ?_; rotate_left; (focus (intro wq hSw; have hrd : ∀ b o, b < w1.heap.size → wq.cell? ⟨b, o, none⟩ = w1.cell? ⟨b, o, none⟩ := (fun b o h => Below.cell hSw (p := ⟨b, o, none⟩) h); go_simp; try with_reducible rfl; done)); try simp only [Act.put, List.setIfInBounds_toArray, List.set_cons_zero, List.set_cons_succ])
  (refine lat_now 2 (by rfl) ?_ (by kernel_rfl) (fun _ _ _ h => h) ?_ ?_; rotate_left; (focus (intro wq hSw; have hrd : ∀ b o, b < w1.heap.size → wq.cell? ⟨b, o, none⟩ = w1.cell? ⟨b, o, none⟩ := (fun b o h => Below.cell hSw (p := ⟨b, o, none⟩) h); go_simp; try with_reducible rfl; done)); try simp only [Act.put, List.setIfInBounds_toArray, List.set_cons_zero, List.set_cons_succ])
  (refine lat_now 3 (by rfl) ?_ (by kernel_rfl) (fun _ _ _ h => h) ?_ ?_; rotate_left; (focus (intro wq hSw; have hrd : ∀ b o, b < w1.heap.size → wq.cell? ⟨b, o, none⟩ = w1.cell? ⟨b, o, none⟩ := (fun b o h => Below.cell hSw (p := ⟨b, o, none⟩) h); go_simp; try with_reducible rfl; done)); try simp only [Act.put, List.setIfInBounds_toArray, List.set_cons_zero, List.set_cons_succ])
  (refine lat_now 4 (by rfl) ?_ (by kernel_rfl) (fun _ _ _ h => h) ?_ ?_; rotate_left; (focus (intro wq hSw; have hrd : ∀ b o, b < w1.heap.size → wq.cell? ⟨b, o, none⟩ = w1.cell? ⟨b, o, none⟩ := (fun b o h => Below.cell hSw (p := ⟨b, o, none⟩) h); go_simp; try with_reducible rfl; done)); try simp only [Act.put, List.setIfInBounds_toArray, List.set_cons_zero, List.set_cons_succ])
  (refine lat_now 5 (by rfl) ?_ (by kernel_rfl) (fun _ _ _ h => h) ?_ ?_; rotate_left; (focus (intro wq hSw; have hrd : ∀ b o, b < w1.heap.size → wq.cell? ⟨b, o, none⟩ = w1.cell? ⟨b, o, none⟩ := (fun b o h => Below.cell hSw (p := ⟨b, o, none⟩) h); go_simp; try with_reducible rfl; done)); try simp only [Act.put, List.setIfInBounds_toArray, List.set_cons_zero, List.set_cons_succ])
  (refine lat_now 6 (by rfl) ?_ (by kernel_rfl) (fun _ _ _ h => h) ?_ ?_; rotate_left; (focus (intro wq hSw; have hrd : ∀ b o, b < w1.heap.size → wq.cell? ⟨b, o, none⟩ = w1.cell? ⟨b, o, none⟩ := (fun b o h => Below.cell hSw (p := ⟨b, o, none⟩) h); go_simp; try with_reducible rfl; done)); try simp only [Act.put, List.setIfInBounds_toArray, List.set_cons_zero, List.set_cons_succ])
  (refine lat_now 7 (by rfl) ?_ (by kernel_rfl) (fun _ _ _ h => h) ?_ ?_; rotate_left; (focus (intro wq hSw; have hrd : ∀ b o, b < w1.heap.size → wq.cell? ⟨b, o, none⟩ = w1.cell? ⟨b, o, none⟩ := (fun b o h => Below.cell hSw (p := ⟨b, o, none⟩) h); go_simp; try with_reducible rfl; done)); try simp only [Act.put, List.setIfInBounds_toArray, List.set_cons_zero, List.set_cons_succ])
  (refine lat_now 8 (by rfl) ?_ (by kernel_rfl) (fun _ _ _ h => h) ?_ ?_; rotate_left; (focus (intro wq hSw; have hrd : ∀ b o, b < w1.heap.size → wq.cell? ⟨b, o, none⟩ = w1.cell? ⟨b, o, none⟩ := (fun b o h => Below.cell hSw (p := ⟨b, o, none⟩) h); go_simp; try with_reducible rfl; done)); try simp only [Act.put, List.setIfInBounds_toArray, List.set_cons_zero, List.set_cons_succ])
  (refine lat_late 1 (by rfl) (.int .i64 (csum b)) (by kernel_rfl) (fun _ _ _ h => h) (fun wq hSw => ⟨_, _, ?_, by refine (refSum_any X m c b (by omega) wq (hP.nx hSw)).mono ?_; rintro e w' ⟨rfl, rfl⟩; exact ⟨rfl, Below.refl _ _⟩⟩) ?_; focus (go_simp; try with_reducible rfl; done); try simp only [Act.put, List.setIfInBounds_toArray, List.set_cons_zero, List.set_cons_succ])
  (refine lat_late 9 (by rfl) (.int .i64 (pseudo s d pr m)) (by kernel_rfl) (fun _ _ _ h => h) (fun wq hSw => ⟨_, _, ?_, refPseudo_any s d pr m wq s0 s1 d0 d1⟩) ?_; focus (go_simp; try with_reducible rfl; done); try simp only [Act.put, List.setIfInBounds_toArray, List.set_cons_zero, List.set_cons_succ])
  (refine lat_late 10 (by rfl) (.int .i64 S) (by kernel_rfl) (fun _ _ _ h => h) (fun wq hSw => ⟨_, _, ?_, by refine (refAdd_any (csum b) (pseudo s d pr m) wq).mono ?_; rintro e w' ⟨rfl, rfl⟩; rw [hS.out]; exact ⟨rfl, Below.refl _ _⟩⟩) ?_; focus (go_simp; try with_reducible rfl; done); try simp only [Act.put, List.setIfInBounds_toArray, List.set_cons_zero, List.set_cons_succ])
  (refine lat_now 11 (by rfl) ?_ (by kernel_rfl) (fun _ _ _ h => h) ?_ ?_; rotate_left; (focus (intro wq hSw; have hrd : ∀ b o, b < w1.heap.size → wq.cell? ⟨b, o, none⟩ = w1.cell? ⟨b, o, none⟩ := (fun b o h => Below.cell hSw (p := ⟨b, o, none⟩) h); go_simp; try with_reducible rfl; done)); try simp only [Act.put, List.setIfInBounds_toArray, List.set_cons_zero, List.set_cons_succ])
  (refine lat_now 12 (by rfl) ?_ (by kernel_rfl) (fun _ _ _ h => h) ?_ ?_; rotate_left; (focus (intro wq hSw; have hrd : ∀ b o, b < w1.heap.size → wq.cell? ⟨b, o, none⟩ = w1.cell? ⟨b, o, none⟩ := (fun b o h => Below.cell hSw (p := ⟨b, o, none⟩) h); go_simp; try with_reducible rfl; done)); try simp only [Act.put, List.setIfInBounds_toArray, List.set_cons_zero, List.set_cons_succ])
  refine lat_done (by kernel_rfl) (fun wz hz => ?_) _
  try refine NoPanic.normal ?_
  replace hP := hP.nx hz
  replace hB := hB.trans (hz.mono hB.size)
  clear hz hq q0 q1 q2 q3 q4 hS
  have hw9 : IntKind.i64.wrap (65535 - S) = 65535 - S := IntWalk.i64_in _ (by omega)
  rw [hw9]
  clear hw9
  have hT1 : 0 ≤ 65535 - S ∧ 65535 - S ≤ 65535 := by omega
  generalize 65535 - S = T at *
  clear hS1 hS2
  have hend : ∃ SV : Int, sentV pr s d b = SV ∧ 0 ≤ SV ∧ SV ≤ 65535 ∧ ((∃ (z1 : T = 0) (z2 : pr = 17), SV = 65535) ∨ ((∃ (z1 : T = 0) (z2 : (pr == 17) = false), SV = T) ∨ (∃ (z1 : (T == 0) = false), SV = T))) := by
    refine ⟨_, rfl, sentV_bd pr s d b |>.1, sentV_bd pr s d b |>.2, ?_⟩
    rw [hsr]
    by_cases z1 : T = 0
    · by_cases z2 : pr = 17
      · exact .inl ⟨z1, z2, if_pos ⟨z1, z2⟩⟩
      · exact .inr (.inl ⟨z1, by simpa using z2, if_neg (fun h => z2 h.2)⟩)
    · exact .inr (.inr ⟨by simpa using z1, if_neg (fun h => z1 h.1)⟩)
  obtain ⟨SV, e1, hv0, hv1, hcs⟩ := hend
  replace e1 := Lib.hid e1
  clear hsr
  have hin0 : (k : Int) < m := by omega
  have hin1 : (k : Int) + 1 < m := by omega
  have hk1 : IntKind.i64.wrap ((k : Int) + 1) = ((k + 1 : Nat) : Int) := by rw [IntWalk.i64_in _ (by omega)]; omega
  rcases hcs with ⟨z1, z2, z3⟩ | ⟨z1, z2, z3⟩ | ⟨z1, z3⟩
  · skip
    subst z1
    subst z2
    replace z3 := Lib.hid z3
    go_upto_region 4 with (fail)
    have own0 := OwnB.lit (base := wz.heap.size) wz [] (Nat.le_refl _) (by simp)
    have hI := hP.alloc (Nat.le_refl _) (.cells #[] 5)
    go_upto_region 5 with (at_builtin; refine wpList_app _ rfl (.tmp 29) (.tmp 30) rfl wz.heap.size _ 0 [] rfl own0 wz.heap.size X m c b rfl hI (by omega) (by simp) ?_; intro v2 w2 own2 hg2 _; have hB2 : Below wz.heap.size wz w2 := ((Below.refl _ _).alloc (Nat.le_refl _) _).trans (own0.below_app hg2 (by simp)); rw [Nat.zero_add, List.nil_append] at own2)
    obtain ⟨G, c2, rfl, hG1, hG2, hG3, _⟩ := own2.form (by omega)
    have f0 := own2.cell k (by omega)
    have f1 := own2.cell (k + 1) (by omega)
    have z0 := own2.free k
    have z1 := own2.free (k + 1)
    clear hI own0 hP
    go_wp2_with fail
    have st := (own2.store k (255) (by omega) (by omega)).store (k + 1) (255) (by omega) (by omega)
    have es : (b.set k (byOf (255))).set (k + 1) (byOf (255)) = setAt b k (be SV 2) := by
      rw [← setAt2 b k SV (by omega), z3.out]
      rfl
    rw [es] at st
    have hB3 := (((hB.trans (hB2.mono hB.size)).setCell (p := ⟨G, k, none⟩) (by have := hB.size; simp; omega) (.int .u8 (255)))).setCell (p := ⟨G, k + 1, none⟩) (by have := hB.size; simp; omega) (.int .u8 (255))
    go_ret
    rw [e1.out]
    exact ⟨_, rfl, st.less hB.size, hB3⟩
  · skip
    subst z1
    replace z3 := Lib.hid z3
    go_upto_region 4 with (fail)
    have own0 := OwnB.lit (base := wz.heap.size) wz [] (Nat.le_refl _) (by simp)
    have hI := hP.alloc (Nat.le_refl _) (.cells #[] 5)
    go_upto_region 5 with (at_builtin; refine wpList_app _ rfl (.tmp 29) (.tmp 30) rfl wz.heap.size _ 0 [] rfl own0 wz.heap.size X m c b rfl hI (by omega) (by simp) ?_; intro v2 w2 own2 hg2 _; have hB2 : Below wz.heap.size wz w2 := ((Below.refl _ _).alloc (Nat.le_refl _) _).trans (own0.below_app hg2 (by simp)); rw [Nat.zero_add, List.nil_append] at own2)
    obtain ⟨G, c2, rfl, hG1, hG2, hG3, _⟩ := own2.form (by omega)
    have f0 := own2.cell k (by omega)
    have f1 := own2.cell (k + 1) (by omega)
    have z0 := own2.free k
    have z1 := own2.free (k + 1)
    clear hI own0 hP
    go_wp2_with fail
    have st := (own2.store k (0) (by omega) (by omega)).store (k + 1) (0) (by omega) (by omega)
    have es : (b.set k (byOf (0))).set (k + 1) (byOf (0)) = setAt b k (be SV 2) := by
      rw [← setAt2 b k SV (by omega), z3.out]
      rfl
    rw [es] at st
    have hB3 := (((hB.trans (hB2.mono hB.size)).setCell (p := ⟨G, k, none⟩) (by have := hB.size; simp; omega) (.int .u8 (0)))).setCell (p := ⟨G, k + 1, none⟩) (by have := hB.size; simp; omega) (.int .u8 (0))
    go_ret
    rw [e1.out]
    exact ⟨_, rfl, st.less hB.size, hB3⟩
  · skip
    replace z3 := Lib.hid z3
    go_upto_region 4 with (fail)
    have own0 := OwnB.lit (base := wz.heap.size) wz [] (Nat.le_refl _) (by simp)
    have hI := hP.alloc (Nat.le_refl _) (.cells #[] 5)
    go_upto_region 5 with (at_builtin; refine wpList_app _ rfl (.tmp 29) (.tmp 30) rfl wz.heap.size _ 0 [] rfl own0 wz.heap.size X m c b rfl hI (by omega) (by simp) ?_; intro v2 w2 own2 hg2 _; have hB2 : Below wz.heap.size wz w2 := ((Below.refl _ _).alloc (Nat.le_refl _) _).trans (own0.below_app hg2 (by simp)); rw [Nat.zero_add, List.nil_append] at own2)
    obtain ⟨G, c2, rfl, hG1, hG2, hG3, _⟩ := own2.form (by omega)
    have f0 := own2.cell k (by omega)
    have f1 := own2.cell (k + 1) (by omega)
    have z0 := own2.free k
    have z1 := own2.free (k + 1)
    clear hI own0 hP
    go_wp2_with fail
    have st := (own2.store k (T / 256) (by omega) (by omega)).store (k + 1) (T % 256) (by omega) (by omega)
    have es : (b.set k (byOf (T / 256))).set (k + 1) (byOf (T % 256)) = setAt b k (be SV 2) := by
      rw [← setAt2 b k SV (by omega), z3.out]
      have : byOf (T % 256) = byOf T := by unfold byOf; rw [Int.emod_emod_of_dvd T (by decide : (256 : Int) ∣ 256)]
      rw [this]
    rw [es] at st
    have hB3 := (((hB.trans (hB2.mono hB.size)).setCell (p := ⟨G, k, none⟩) (by have := hB.size; simp; omega) (.int .u8 (T / 256)))).setCell (p := ⟨G, k + 1, none⟩) (by have := hB.size; simp; omega) (.int .u8 (T % 256))
    go_ret
    rw [e1.out]
    exact ⟨_, rfl, st.less hB.size, hB3⟩
end Go.Proofs.YthbfnppgaaeilaaDoor
