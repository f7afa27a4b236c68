/- open: OpenBack, the walk. -/
import Derived.Test.YtlpplclhjkbjbaaOpN
import Derived.Test.YtlpplclhjkbjbaaOpP
import Derived.Deep.Cut
namespace Go.Proofs.Ytlpplclhjkbjbaa
set_option linter.unusedVariables false
open Go.RowKit

theorem ParseP.yes {T : TypeId} {w w' : World} {e : Ending} {a h id : Int} {ds : List CapD} (hp : ParseP T w w' e (.ok (a, h, id, ds))) :
    ∃ A n c cs, e = .returned (.tuple #[.agg #[.int .i64 a, .int .i64 h, .int .u32 id, .slice A n c], .agg #[.int .i64 0, .int .i64 0, .slice none 0 0]]) ∧ Seen capK w' (fun b => b < w'.heap.size) A n cs ∧ cs.map capKey = ds := by
  obtain ⟨v, rs, rfl, hrow, hk⟩ := hp
  obtain ⟨A, c, rfl, _, _, hS⟩ := hrow.seen (Nat.le_refl _)
  exact ⟨A, _, c, rs, rfl, hS.more fun b hb => hb.2, hk⟩
theorem ParseP.no {T : TypeId} {w w' : World} {e : Ending} {s : Int} (hp : ParseP T w w' e (.error (s, []))) :
    ∃ A c, e = .returned (.tuple #[.agg #[.int .i64 0, .int .i64 0, .int .u32 0, .slice none 0 0], .agg #[.int .i64 2, .int .i64 s, .slice A 0 c]]) := by
  obtain ⟨v, rfl, own⟩ := hp
  obtain ⟨A, c, rfl, _⟩ := own.any2
  exact ⟨A, c, rfl⟩
set_option maxRecDepth 100000 in
set_option maxHeartbeats 16000000 in
theorem back8_walk (a h id : Int) (A : Option Addr) (n c : Nat) (cs : List CapV) (p k : Int) (w : World) (_ : (Lit.int .i64 a).wf = true) (_ : (Lit.int .i64 h).wf = true) (hid : (Lit.int .u32 id).wf = true) (_ : n ≤ c) (_ : c ≤ maxLen)
    (hS : Seen capK w (fun b => b < w.heap.size) A n cs) (_ : (Lit.int .i64 p).wf = true) (hku : (Lit.int .u64 k).wf = true) :
    Calls Try.prog 9 #[.agg #[.int .i64 a, .int .i64 h, .int .u32 id, .slice A n c], .int .i64 p, .int .u64 k] w fun e w' => e = .returned (.bool true) ∧ Below w.heap.size w w' := by
  have i0 : 0 ≤ id := (bounds_u32 hid).1
  have i1 : id ≤ 4294967295 := by have := (bounds_u32 hid).2; omega
  obtain ⟨k0, k1⟩ := bounds_u64 hku
  have hcl := Lib.hid hS.1
  have hvv : ∀ r ∈ cs, r.v.length = r.n := fun r hr => (hS.2.1 r hr).2.2.1
  replace hvv := Lib.hid hvv
  have hB := (Below.refl w.heap.size w).alloc (Nat.le_refl _) (.cells #[.int .i64 a, .int .i64 h, .int .u32 id, .slice A n c] 57)
  have hq := Blk.new w 57 #[.int .i64 a, .int .i64 h, .int .u32 id, .slice A n c]
  replace hS := Lat.seen hS (hB : Lat w _)
  clear hku
  go_enter Try.func9, Try.ntmps9
  go_wp2_with fail
  refine (light8_any _ a h id A n c cs hS).mono ?_
  rintro e w1 ⟨x, rfl, hx, hb⟩
  replace hq := hq.below hb hq.lt
  replace hB := hB.trans (hb.mono hB.size)
  replace hS := Lat.seen hS hb
  clear hb
  cases x
  · go_wp2_with fail
    refine (lives8_any _).mono ?_
    rintro e wl ⟨rfl, hbl⟩
    go_wp2_with fail
    go_ret
    exact ⟨rfl, hB.trans (hbl.mono hB.size)⟩
  have hn := hx rfl
  clear hx
  have lt_hq := hq.lt
  have c0_hq : w1.cell? ⟨w.heap.size, 0, none⟩ = some (.int .i64 a) := hq.cellv 0 rfl
  have c1_hq : w1.cell? ⟨w.heap.size, 1, none⟩ = some (.int .i64 h) := hq.cellv 1 rfl
  have c2_hq : w1.cell? ⟨w.heap.size, 2, none⟩ = some (.int .u32 id) := hq.cellv 2 rfl
  have c3_hq : w1.cell? ⟨w.heap.size, 3, none⟩ = some (.slice A n c) := hq.cellv 3 rfl
  go_wp2_with fail
  refine (openBytes_any w1 a h id A n c cs hS hn i0 i1).mono ?_
  rintro e w2 ⟨v, rfl, own, hb⟩
  replace hq := hq.below hb hq.lt
  replace hB := hB.trans (hb.mono hB.size)
  replace hS := Lat.seen hS hb
  clear hb
  clear lt_hq c0_hq c1_hq c2_hq c3_hq
  have lt_hq := hq.lt
  have c0_hq : w2.cell? ⟨w.heap.size, 0, none⟩ = some (.int .i64 a) := hq.cellv 0 rfl
  have c1_hq : w2.cell? ⟨w.heap.size, 1, none⟩ = some (.int .i64 h) := hq.cellv 1 rfl
  have c2_hq : w2.cell? ⟨w.heap.size, 2, none⟩ = some (.int .u32 id) := hq.cellv 2 rfl
  have c3_hq : w2.cell? ⟨w.heap.size, 3, none⟩ = some (.slice A n c) := hq.cellv 3 rfl
  cases hg : goodO a h id cs
  · have e0 : bytesO a h id cs = [] := by unfold bytesO; rw [hg]; rfl
    rw [e0] at own
    obtain ⟨A1, c1, rfl, _⟩ := own.any2
    replace e0 := Lib.hid e0
    clear own
    go_wp2_with fail
    refine (openGood_any w2 a h id A n c cs hS hn).mono ?_
    rintro e w3 ⟨rfl, hb⟩
    rw [hg]
    replace hB := hB.trans (hb.mono hB.size)
    go_wp2_with fail
    refine (lives8_any w3).mono ?_
    rintro e wl ⟨rfl, hbl⟩
    go_wp2_with fail
    go_ret
    exact ⟨rfl, hB.trans (hbl.mono hB.size)⟩
  have hlen := bytesO_len a h id cs hvv.out
  have hlen2 : 10 ≤ (bytesO a h id cs).length := by rw [(bytesO_eq a h id cs hg hvv.out).1, List.length_append, headO_len, List.length_cons]; omega
  have E1 : parseO (bytesO a h id cs) a = .ok (a, h, id, cs.map capKey) := by rw [parse_back hg hvv.out i0 i1, if_neg (by omega)]
  have E2 : parseO (bytesO a h id cs) 0 = .ok (a, h, id, cs.map capKey) := by rw [parse_back hg hvv.out i0 i1, if_neg (by omega)]
  have E3 : ∀ j, j < (bytesO a h id cs).length → parseO ((bytesO a h id cs).take j) 0 = .error (0, []) := parse_cut hg hvv.out i0 i1
  have E4 : parseO (bytesO a h id cs ++ [byOf k]) 0 = .error (0, []) := parse_more hg hvv.out i0 i1 _
  have E5 := parse_back hg hvv.out i0 i1 p
  replace E1 := Lib.hid E1
  replace E2 := Lib.hid E2
  replace E3 := Lib.hid E3
  replace E4 := Lib.hid E4
  replace E5 := Lib.hid E5
  generalize bytesO a h id cs = L at *
  replace hg := Lib.hid hg
  obtain ⟨A1, c1, rfl, hnc1, hcm1, by1, _⟩ := own.any2
  have hne : ((L.length : Int) == 0) = false := by rw [beq_eq_false_iff_ne]; omega
  have hcutL : ((k % (L.length : Int)).toNat : Int) = k % (L.length : Int) := by
    have := Int.emod_nonneg k (show (L.length : Int) ≠ 0 by omega); omega
  have hcutlt : (k % (L.length : Int)).toNat < L.length := by
    have := Int.emod_lt_of_pos k (show (0 : Int) < L.length by omega); omega
  have hcu0 : 0 ≤ k % (L.length : Int) := Int.emod_nonneg k (show (L.length : Int) ≠ 0 by omega)
  have hcu1 : k % (L.length : Int) ≤ 212 := by have := Int.emod_lt_of_pos k (show (0 : Int) < L.length by omega); omega
  obtain ⟨A3, hsl3, hby3⟩ := slice_take A1 L.length c1 (k % (L.length : Int)).toNat (by omega) hnc1
  replace E3 := Lib.hid (E3.out _ hcutlt)
  rw [hcutL] at hsl3
  generalize (k % (L.length : Int)).toNat = cu at *
  replace hcutL := Lib.hid hcutL
  clear own
  go_wp2_with fail
  clear lt_hq c0_hq c1_hq c2_hq c3_hq
  refine (openParse_any w2 A1 L.length c1 L a by1 (by omega)).mono ?_
  rintro e v6 ⟨hb, hP⟩
  rw [E1.out] at hP
  obtain ⟨X6, m6, d6, cs6, rfl, hS6, hk6⟩ := hP.yes
  clear hP
  replace hq := hq.below hb hq.lt
  replace hS := Lat.seen hS hb
  replace by1 := by1.nx hb
  replace hB := hB.trans (hb.mono hB.size)
  clear hb
  have hm6 : m6 ≤ 10000 := by
    have e1 := hS6.1
    have e2 : cs6.length = cs.length := by have := congrArg List.length hk6; simpa using this
    have := hcl.out
    omega
  have hsm6 := Lib.hid (sameO_keys a h id cs6 cs hk6)
  clear hk6
  have hx6 := (Blk.new v6 57 #[.int .i64 a, .int .i64 h, .int .u32 id, .slice X6 m6 d6]).alloc (.cells #[.int .i64 0, .int .i64 0, .slice none 0 0] 31)
  have hf6 : Blk ((v6.alloc (.cells #[.int .i64 a, .int .i64 h, .int .u32 id, .slice X6 m6 d6] 57)).alloc (.cells #[.int .i64 0, .int .i64 0, .slice none 0 0] 31)) (v6.heap.size + 1) 31 #[.int .i64 0, .int .i64 0, .slice none 0 0] := by
    have := Blk.new (v6.alloc (.cells #[.int .i64 a, .int .i64 h, .int .u32 id, .slice X6 m6 d6] 57)) 31 #[.int .i64 0, .int .i64 0, .slice none 0 0]
    simpa using this
  have hba := ((Below.refl v6.heap.size v6).alloc (Nat.le_refl _) (.cells #[.int .i64 a, .int .i64 h, .int .u32 id, .slice X6 m6 d6] 57)).alloc (by simp) (.cells #[.int .i64 0, .int .i64 0, .slice none 0 0] 31)
  replace hq := hq.below hba hq.lt
  replace hS := Lat.seen hS hba
  replace hS6 := Lat.seen hS6 hba
  replace by1 := by1.nx hba
  replace hB := hB.trans (hba.mono hB.size)
  clear hba
  go_wp2_with fail
  generalize (v6.alloc (.cells #[.int .i64 a, .int .i64 h, .int .u32 id, .slice X6 m6 d6] 57)).alloc (.cells #[.int .i64 0, .int .i64 0, .slice none 0 0] 31) = u6 at *
  generalize v6.heap.size = g6 at *
  refine (openParse_any u6 A1 L.length c1 L 0 by1 (by omega)).mono ?_
  rintro e v7 ⟨hb, hP⟩
  rw [E2.out] at hP
  obtain ⟨X7, m7, d7, cs7, rfl, hS7, hk7⟩ := hP.yes
  clear hP
  replace hq := hq.below hb hq.lt
  replace hx6 := hx6.below hb hx6.lt
  replace hf6 := hf6.below hb hf6.lt
  replace hS := Lat.seen hS hb
  replace hS6 := Lat.seen hS6 hb
  replace by1 := by1.nx hb
  replace hB := hB.trans (hb.mono hB.size)
  clear hb
  have hm7 : m7 ≤ 10000 := by
    have e1 := hS7.1
    have e2 : cs7.length = cs.length := by have := congrArg List.length hk7; simpa using this
    have := hcl.out
    omega
  have hsm7 := Lib.hid (sameO_keys a h id cs7 cs hk7)
  clear hk7
  have hx7 := (Blk.new v7 57 #[.int .i64 a, .int .i64 h, .int .u32 id, .slice X7 m7 d7]).alloc (.cells #[.int .i64 0, .int .i64 0, .slice none 0 0] 31)
  have hf7 : Blk ((v7.alloc (.cells #[.int .i64 a, .int .i64 h, .int .u32 id, .slice X7 m7 d7] 57)).alloc (.cells #[.int .i64 0, .int .i64 0, .slice none 0 0] 31)) (v7.heap.size + 1) 31 #[.int .i64 0, .int .i64 0, .slice none 0 0] := by
    have := Blk.new (v7.alloc (.cells #[.int .i64 a, .int .i64 h, .int .u32 id, .slice X7 m7 d7] 57)) 31 #[.int .i64 0, .int .i64 0, .slice none 0 0]
    simpa using this
  have hba := ((Below.refl v7.heap.size v7).alloc (Nat.le_refl _) (.cells #[.int .i64 a, .int .i64 h, .int .u32 id, .slice X7 m7 d7] 57)).alloc (by simp) (.cells #[.int .i64 0, .int .i64 0, .slice none 0 0] 31)
  replace hq := hq.below hba hq.lt
  replace hx6 := hx6.below hba hx6.lt
  replace hf6 := hf6.below hba hf6.lt
  replace hS := Lat.seen hS hba
  replace hS6 := Lat.seen hS6 hba
  replace hS7 := Lat.seen hS7 hba
  replace by1 := by1.nx hba
  replace hB := hB.trans (hba.mono hB.size)
  clear hba
  go_wp2_with fail
  generalize (v7.alloc (.cells #[.int .i64 a, .int .i64 h, .int .u32 id, .slice X7 m7 d7] 57)).alloc (.cells #[.int .i64 0, .int .i64 0, .slice none 0 0] 31) = u7 at *
  generalize v7.heap.size = g7 at *
  have by3 := hby3 _ _ _ by1
  refine (openParse_any u7 A3 cu c1 (L.take cu) 0 by3 (by omega)).mono ?_
  rintro e v8 ⟨hb, hP⟩
  rw [E3.out] at hP
  obtain ⟨X8, d8, rfl⟩ := hP.no
  clear hP
  replace hq := hq.below hb hq.lt
  replace hx6 := hx6.below hb hx6.lt
  replace hf6 := hf6.below hb hf6.lt
  replace hx7 := hx7.below hb hx7.lt
  replace hf7 := hf7.below hb hf7.lt
  replace hS := Lat.seen hS hb
  replace hS6 := Lat.seen hS6 hb
  replace hS7 := Lat.seen hS7 hb
  replace by1 := by1.nx hb
  replace hB := hB.trans (hb.mono hB.size)
  clear hb
  have hx8 := (Blk.new v8 57 #[.int .i64 0, .int .i64 0, .int .u32 0, .slice none 0 0]).alloc (.cells #[.int .i64 2, .int .i64 0, .slice X8 0 d8] 31)
  have hf8 : Blk ((v8.alloc (.cells #[.int .i64 0, .int .i64 0, .int .u32 0, .slice none 0 0] 57)).alloc (.cells #[.int .i64 2, .int .i64 0, .slice X8 0 d8] 31)) (v8.heap.size + 1) 31 #[.int .i64 2, .int .i64 0, .slice X8 0 d8] := by
    have := Blk.new (v8.alloc (.cells #[.int .i64 0, .int .i64 0, .int .u32 0, .slice none 0 0] 57)) 31 #[.int .i64 2, .int .i64 0, .slice X8 0 d8]
    simpa using this
  have hba := ((Below.refl v8.heap.size v8).alloc (Nat.le_refl _) (.cells #[.int .i64 0, .int .i64 0, .int .u32 0, .slice none 0 0] 57)).alloc (by simp) (.cells #[.int .i64 2, .int .i64 0, .slice X8 0 d8] 31)
  replace hq := hq.below hba hq.lt
  replace hx6 := hx6.below hba hx6.lt
  replace hf6 := hf6.below hba hf6.lt
  replace hx7 := hx7.below hba hx7.lt
  replace hf7 := hf7.below hba hf7.lt
  replace hS := Lat.seen hS hba
  replace hS6 := Lat.seen hS6 hba
  replace hS7 := Lat.seen hS7 hba
  replace by1 := by1.nx hba
  replace hB := hB.trans (hba.mono hB.size)
  clear hba
  generalize hu8 : (v8.alloc (.cells #[.int .i64 0, .int .i64 0, .int .u32 0, .slice none 0 0] 57)).alloc (.cells #[.int .i64 2, .int .i64 0, .slice X8 0 d8] 31) = u8 at *
  clear by3 hby3
  have hlit := OwnB.lit (base := u8.heap.size) u8 [] (Nat.le_refl _) (by simp)
  rw [show byCells [] = #[] from rfl] at hlit
  replace hlit : OwnB (u8.alloc (.cells #[] 5)) u8.heap.size (.slice (some ⟨u8.heap.size, 0, none⟩) 0 0) 0 [] := hlit
  have hby0 := by1.alloc (Nat.le_refl _) (.cells #[] 5)
  go_wp2_with first
    | (at_builtin; refine wpList_app _ rfl (.tmp 60) (.tmp 61) rfl u8.heap.size _ 0 [] rfl hlit _ _ _ _ _ rfl hby0 (by omega) (by simp) ?_; intro y3 w3 own3 hg3 hd3; clear hd3; have hb3 := ((Below.refl u8.heap.size u8).alloc (Nat.le_refl _) (.cells #[] 5)).trans (hlit.below_app hg3 (by simp)); clear hg3; rw [Nat.zero_add, List.nil_append] at own3; have own3a := own3.alloc (.cells #[.int .u8 (k % 256)] 5); have one := byt_one w3 k)
    | (at_builtin; refine wpList_app _ rfl (.tmp 62) (.tmp 65) rfl u8.heap.size _ _ _ rfl own3a _ _ 1 1 _ rfl one (by omega) (by have := hb3.size; simp; omega) ?_; intro y4 w4 own4 hg4 hd4; clear hd4; have hb4 := (hb3.alloc hb3.size (.cells #[.int .u8 (k % 256)] 5)).trans (own3a.below_app hg4 (by have := hb3.size; simp; omega)); clear hg4; obtain ⟨A4, c4, rfl, hnc4, hcm4, hby4, _⟩ := own4.any2)
  clear hu8 hby0 own3 own3a one hb3 hlit own4
  generalize v8.heap.size = g8 at *
  replace hq := hq.below hb4 hq.lt
  replace hx6 := hx6.below hb4 hx6.lt
  replace hf6 := hf6.below hb4 hf6.lt
  replace hx7 := hx7.below hb4 hx7.lt
  replace hf7 := hf7.below hb4 hf7.lt
  replace hx8 := hx8.below hb4 hx8.lt
  replace hf8 := hf8.below hb4 hf8.lt
  replace hS := Lat.seen hS hb4
  replace hS6 := Lat.seen hS6 hb4
  replace hS7 := Lat.seen hS7 hb4
  replace by1 := by1.nx hb4
  replace hB := hB.trans (hb4.mono hB.size)
  clear hb4
  refine (openParse_any w4 A4 _ c4 (L ++ [byOf k]) 0 hby4 (by omega)).mono ?_
  rintro e v9 ⟨hb, hP⟩
  rw [E4.out] at hP
  obtain ⟨X9, d9, rfl⟩ := hP.no
  clear hP
  replace hq := hq.below hb hq.lt
  replace hx6 := hx6.below hb hx6.lt
  replace hf6 := hf6.below hb hf6.lt
  replace hx7 := hx7.below hb hx7.lt
  replace hf7 := hf7.below hb hf7.lt
  replace hx8 := hx8.below hb hx8.lt
  replace hf8 := hf8.below hb hf8.lt
  replace hS := Lat.seen hS hb
  replace hS6 := Lat.seen hS6 hb
  replace hS7 := Lat.seen hS7 hb
  replace by1 := by1.nx hb
  replace hB := hB.trans (hb.mono hB.size)
  clear hb
  have hx9 := (Blk.new v9 57 #[.int .i64 0, .int .i64 0, .int .u32 0, .slice none 0 0]).alloc (.cells #[.int .i64 2, .int .i64 0, .slice X9 0 d9] 31)
  have hf9 : Blk ((v9.alloc (.cells #[.int .i64 0, .int .i64 0, .int .u32 0, .slice none 0 0] 57)).alloc (.cells #[.int .i64 2, .int .i64 0, .slice X9 0 d9] 31)) (v9.heap.size + 1) 31 #[.int .i64 2, .int .i64 0, .slice X9 0 d9] := by
    have := Blk.new (v9.alloc (.cells #[.int .i64 0, .int .i64 0, .int .u32 0, .slice none 0 0] 57)) 31 #[.int .i64 2, .int .i64 0, .slice X9 0 d9]
    simpa using this
  have hba := ((Below.refl v9.heap.size v9).alloc (Nat.le_refl _) (.cells #[.int .i64 0, .int .i64 0, .int .u32 0, .slice none 0 0] 57)).alloc (by simp) (.cells #[.int .i64 2, .int .i64 0, .slice X9 0 d9] 31)
  replace hq := hq.below hba hq.lt
  replace hx6 := hx6.below hba hx6.lt
  replace hf6 := hf6.below hba hf6.lt
  replace hx7 := hx7.below hba hx7.lt
  replace hf7 := hf7.below hba hf7.lt
  replace hx8 := hx8.below hba hx8.lt
  replace hf8 := hf8.below hba hf8.lt
  replace hS := Lat.seen hS hba
  replace hS6 := Lat.seen hS6 hba
  replace hS7 := Lat.seen hS7 hba
  replace by1 := by1.nx hba
  replace hB := hB.trans (hba.mono hB.size)
  clear hba
  go_wp2_with fail
  generalize (v9.alloc (.cells #[.int .i64 0, .int .i64 0, .int .u32 0, .slice none 0 0] 57)).alloc (.cells #[.int .i64 2, .int .i64 0, .slice X9 0 d9] 31) = u9 at *
  generalize v9.heap.size = g9 at *
  clear hby4
  by_cases h1p : 1 ≤ p
  rotate_left
  · have d1 : p < 1 := by omega
    replace E5 := Lib.hid (E5.out.trans (if_neg (by omega)))
    refine (openParse_any u9 A1 L.length c1 L p by1 (by omega)).mono ?_
    rintro e v10 ⟨hb, hP⟩
    rw [E5.out] at hP
    obtain ⟨X10, m10, d10, cs10, rfl, -, -⟩ := hP.yes
    clear hP
    replace hq := hq.below hb hq.lt
    replace hx6 := hx6.below hb hx6.lt
    replace hf6 := hf6.below hb hf6.lt
    replace hx7 := hx7.below hb hx7.lt
    replace hf7 := hf7.below hb hf7.lt
    replace hx8 := hx8.below hb hx8.lt
    replace hf8 := hf8.below hb hf8.lt
    replace hx9 := hx9.below hb hx9.lt
    replace hf9 := hf9.below hb hf9.lt
    replace hS := Lat.seen hS hb
    replace hS6 := Lat.seen hS6 hb
    replace hS7 := Lat.seen hS7 hb
    replace by1 := by1.nx hb
    replace hB := hB.trans (hb.mono hB.size)
    clear hb
    have hx10 := (Blk.new v10 57 #[.int .i64 a, .int .i64 h, .int .u32 id, .slice X10 m10 d10]).alloc (.cells #[.int .i64 0, .int .i64 0, .slice none 0 0] 31)
    have hf10 : Blk ((v10.alloc (.cells #[.int .i64 a, .int .i64 h, .int .u32 id, .slice X10 m10 d10] 57)).alloc (.cells #[.int .i64 0, .int .i64 0, .slice none 0 0] 31)) (v10.heap.size + 1) 31 #[.int .i64 0, .int .i64 0, .slice none 0 0] := by
      have := Blk.new (v10.alloc (.cells #[.int .i64 a, .int .i64 h, .int .u32 id, .slice X10 m10 d10] 57)) 31 #[.int .i64 0, .int .i64 0, .slice none 0 0]
      simpa using this
    have hba := ((Below.refl v10.heap.size v10).alloc (Nat.le_refl _) (.cells #[.int .i64 a, .int .i64 h, .int .u32 id, .slice X10 m10 d10] 57)).alloc (by simp) (.cells #[.int .i64 0, .int .i64 0, .slice none 0 0] 31)
    replace hq := hq.below hba hq.lt
    replace hx6 := hx6.below hba hx6.lt
    replace hf6 := hf6.below hba hf6.lt
    replace hx7 := hx7.below hba hx7.lt
    replace hf7 := hf7.below hba hf7.lt
    replace hx8 := hx8.below hba hx8.lt
    replace hf8 := hf8.below hba hf8.lt
    replace hx9 := hx9.below hba hx9.lt
    replace hf9 := hf9.below hba hf9.lt
    replace hS := Lat.seen hS hba
    replace hS6 := Lat.seen hS6 hba
    replace hS7 := Lat.seen hS7 hba
    replace by1 := by1.nx hba
    replace hB := hB.trans (hba.mono hB.size)
    clear hba
    go_upto_region 11 with (fail)
    generalize (v10.alloc (.cells #[.int .i64 a, .int .i64 h, .int .u32 id, .slice X10 m10 d10] 57)).alloc (.cells #[.int .i64 0, .int .i64 0, .slice none 0 0] 31) = u10 at *
    generalize v10.heap.size = g10 at *
    have hba := (Below.refl u10.heap.size u10).alloc (Nat.le_refl _) (.cells #[.int .i64 2, .int .i64 0, .slice none 0 0] 31)
    have hno := Blk.new u10 31 #[.int .i64 2, .int .i64 0, .slice none 0 0]
    have lt10 := hq.lt
    have pq : u10.cell? ⟨w.heap.size, 0, none⟩ = some (.int .i64 a) := hq.cellv 0 rfl
    replace hq := hq.below hba hq.lt
    replace hx6 := hx6.below hba hx6.lt
    replace hf6 := hf6.below hba hf6.lt
    replace hx7 := hx7.below hba hx7.lt
    replace hf7 := hf7.below hba hf7.lt
    replace hx8 := hx8.below hba hx8.lt
    replace hf8 := hf8.below hba hf8.lt
    replace hx9 := hx9.below hba hx9.lt
    replace hf9 := hf9.below hba hf9.lt
    replace hf10 := hf10.below hba hf10.lt
    replace hS := Lat.seen hS hba
    replace hS6 := Lat.seen hS6 hba
    replace hS7 := Lat.seen hS7 hba
    replace by1 := by1.nx hba
    replace hB := hB.trans (hba.mono hB.size)
    clear hba
    go_upto_region 13 with (fail)
    generalize u10.alloc (.cells #[.int .i64 2, .int .i64 0, .slice none 0 0] 31) = un at *
    clear lt10 pq
    have lt_hf6 := hf6.lt
    have c0_hf6 : un.cell? ⟨(g6 + 1), 0, none⟩ = some (.int .i64 0) := hf6.cellv 0 rfl
    have lt_hf7 := hf7.lt
    have c0_hf7 : un.cell? ⟨(g7 + 1), 0, none⟩ = some (.int .i64 0) := hf7.cellv 0 rfl
    have lt_hx6 := hx6.lt
    have c0_hx6 : un.cell? ⟨g6, 0, none⟩ = some (.int .i64 a) := hx6.cellv 0 rfl
    have c1_hx6 : un.cell? ⟨g6, 1, none⟩ = some (.int .i64 h) := hx6.cellv 1 rfl
    have c2_hx6 : un.cell? ⟨g6, 2, none⟩ = some (.int .u32 id) := hx6.cellv 2 rfl
    have c3_hx6 : un.cell? ⟨g6, 3, none⟩ = some (.slice X6 m6 d6) := hx6.cellv 3 rfl
    have lt_hq := hq.lt
    have c0_hq : un.cell? ⟨w.heap.size, 0, none⟩ = some (.int .i64 a) := hq.cellv 0 rfl
    have c1_hq : un.cell? ⟨w.heap.size, 1, none⟩ = some (.int .i64 h) := hq.cellv 1 rfl
    have c2_hq : un.cell? ⟨w.heap.size, 2, none⟩ = some (.int .u32 id) := hq.cellv 2 rfl
    have c3_hq : un.cell? ⟨w.heap.size, 3, none⟩ = some (.slice A n c) := hq.cellv 3 rfl
    go_wp2_with fail
    clear lt_hf6 c0_hf6
    clear lt_hf7 c0_hf7
    clear lt_hx6 c0_hx6 c1_hx6 c2_hx6 c3_hx6
    clear lt_hq c0_hq c1_hq c2_hq c3_hq
    refine (openSame_any un a h id X6 m6 d6 cs6 a h id A n c cs hS6 hS hm6).mono ?_
    rintro e un1 ⟨rfl, hb⟩
    rw [hsm6.out]
    replace hq := hq.below hb hq.lt
    replace hx6 := hx6.below hb hx6.lt
    replace hf6 := hf6.below hb hf6.lt
    replace hx7 := hx7.below hb hx7.lt
    replace hf7 := hf7.below hb hf7.lt
    replace hx8 := hx8.below hb hx8.lt
    replace hf8 := hf8.below hb hf8.lt
    replace hx9 := hx9.below hb hx9.lt
    replace hf9 := hf9.below hb hf9.lt
    replace hf10 := hf10.below hb hf10.lt
    replace hno := hno.below hb hno.lt
    replace hS := Lat.seen hS hb
    replace hS6 := Lat.seen hS6 hb
    replace hS7 := Lat.seen hS7 hb
    replace by1 := by1.nx hb
    replace hB := hB.trans (hb.mono hB.size)
    clear hb
    have lt_hx7 := hx7.lt
    have c0_hx7 : un1.cell? ⟨g7, 0, none⟩ = some (.int .i64 a) := hx7.cellv 0 rfl
    have c1_hx7 : un1.cell? ⟨g7, 1, none⟩ = some (.int .i64 h) := hx7.cellv 1 rfl
    have c2_hx7 : un1.cell? ⟨g7, 2, none⟩ = some (.int .u32 id) := hx7.cellv 2 rfl
    have c3_hx7 : un1.cell? ⟨g7, 3, none⟩ = some (.slice X7 m7 d7) := hx7.cellv 3 rfl
    have lt_hq := hq.lt
    have c0_hq : un1.cell? ⟨w.heap.size, 0, none⟩ = some (.int .i64 a) := hq.cellv 0 rfl
    have c1_hq : un1.cell? ⟨w.heap.size, 1, none⟩ = some (.int .i64 h) := hq.cellv 1 rfl
    have c2_hq : un1.cell? ⟨w.heap.size, 2, none⟩ = some (.int .u32 id) := hq.cellv 2 rfl
    have c3_hq : un1.cell? ⟨w.heap.size, 3, none⟩ = some (.slice A n c) := hq.cellv 3 rfl
    go_wp2_with fail
    clear lt_hx7 c0_hx7 c1_hx7 c2_hx7 c3_hx7
    clear lt_hq c0_hq c1_hq c2_hq c3_hq
    refine (openSame_any un1 a h id X7 m7 d7 cs7 a h id A n c cs hS7 hS hm7).mono ?_
    rintro e un2 ⟨rfl, hb⟩
    rw [hsm7.out]
    replace hq := hq.below hb hq.lt
    replace hx6 := hx6.below hb hx6.lt
    replace hf6 := hf6.below hb hf6.lt
    replace hx7 := hx7.below hb hx7.lt
    replace hf7 := hf7.below hb hf7.lt
    replace hx8 := hx8.below hb hx8.lt
    replace hf8 := hf8.below hb hf8.lt
    replace hx9 := hx9.below hb hx9.lt
    replace hf9 := hf9.below hb hf9.lt
    replace hf10 := hf10.below hb hf10.lt
    replace hno := hno.below hb hno.lt
    replace hS := Lat.seen hS hb
    replace hS6 := Lat.seen hS6 hb
    replace hS7 := Lat.seen hS7 hb
    replace by1 := by1.nx hb
    replace hB := hB.trans (hb.mono hB.size)
    clear hb
    have lt_hf8 := hf8.lt
    have c0_hf8 : un2.cell? ⟨(g8 + 1), 0, none⟩ = some (.int .i64 2) := hf8.cellv 0 rfl
    have c1_hf8 : un2.cell? ⟨(g8 + 1), 1, none⟩ = some (.int .i64 0) := hf8.cellv 1 rfl
    have c2_hf8 : un2.cell? ⟨(g8 + 1), 2, none⟩ = some (.slice X8 0 d8) := hf8.cellv 2 rfl
    have lt_hno := hno.lt
    have c0_hno : un2.cell? ⟨u10.heap.size, 0, none⟩ = some (.int .i64 2) := hno.cellv 0 rfl
    have c1_hno : un2.cell? ⟨u10.heap.size, 1, none⟩ = some (.int .i64 0) := hno.cellv 1 rfl
    have c2_hno : un2.cell? ⟨u10.heap.size, 2, none⟩ = some (.slice none 0 0) := hno.cellv 2 rfl
    go_wp2_with fail
    clear lt_hf8 c0_hf8 c1_hf8 c2_hf8
    clear lt_hno c0_hno c1_hno c2_hno
    refine (faults_any un2 2 0 X8 0 d8 [] 2 0 none 0 0 [] 0 0 (byt_empty _ _ _) (byt_empty _ _ _) (Nat.zero_le _) (Nat.zero_le _)).mono ?_
    rintro e un3 ⟨rfl, hb⟩
    rw [faultB_refl]
    replace hq := hq.below hb hq.lt
    replace hx6 := hx6.below hb hx6.lt
    replace hf6 := hf6.below hb hf6.lt
    replace hx7 := hx7.below hb hx7.lt
    replace hf7 := hf7.below hb hf7.lt
    replace hx8 := hx8.below hb hx8.lt
    replace hf8 := hf8.below hb hf8.lt
    replace hx9 := hx9.below hb hx9.lt
    replace hf9 := hf9.below hb hf9.lt
    replace hf10 := hf10.below hb hf10.lt
    replace hno := hno.below hb hno.lt
    replace hS := Lat.seen hS hb
    replace hS6 := Lat.seen hS6 hb
    replace hS7 := Lat.seen hS7 hb
    replace by1 := by1.nx hb
    replace hB := hB.trans (hb.mono hB.size)
    clear hb
    have lt_hf9 := hf9.lt
    have c0_hf9 : un3.cell? ⟨(g9 + 1), 0, none⟩ = some (.int .i64 2) := hf9.cellv 0 rfl
    have c1_hf9 : un3.cell? ⟨(g9 + 1), 1, none⟩ = some (.int .i64 0) := hf9.cellv 1 rfl
    have c2_hf9 : un3.cell? ⟨(g9 + 1), 2, none⟩ = some (.slice X9 0 d9) := hf9.cellv 2 rfl
    have lt_hno := hno.lt
    have c0_hno : un3.cell? ⟨u10.heap.size, 0, none⟩ = some (.int .i64 2) := hno.cellv 0 rfl
    have c1_hno : un3.cell? ⟨u10.heap.size, 1, none⟩ = some (.int .i64 0) := hno.cellv 1 rfl
    have c2_hno : un3.cell? ⟨u10.heap.size, 2, none⟩ = some (.slice none 0 0) := hno.cellv 2 rfl
    go_wp2_with fail
    clear lt_hf9 c0_hf9 c1_hf9 c2_hf9
    clear lt_hno c0_hno c1_hno c2_hno
    refine (faults_any un3 2 0 X9 0 d9 [] 2 0 none 0 0 [] 0 0 (byt_empty _ _ _) (byt_empty _ _ _) (Nat.zero_le _) (Nat.zero_le _)).mono ?_
    rintro e un4 ⟨rfl, hb⟩
    rw [faultB_refl]
    replace hq := hq.below hb hq.lt
    replace hx6 := hx6.below hb hx6.lt
    replace hf6 := hf6.below hb hf6.lt
    replace hx7 := hx7.below hb hx7.lt
    replace hf7 := hf7.below hb hf7.lt
    replace hx8 := hx8.below hb hx8.lt
    replace hf8 := hf8.below hb hf8.lt
    replace hx9 := hx9.below hb hx9.lt
    replace hf9 := hf9.below hb hf9.lt
    replace hf10 := hf10.below hb hf10.lt
    replace hno := hno.below hb hno.lt
    replace hS := Lat.seen hS hb
    replace hS6 := Lat.seen hS6 hb
    replace hS7 := Lat.seen hS7 hb
    replace by1 := by1.nx hb
    replace hB := hB.trans (hb.mono hB.size)
    clear hb
    have lt_hf10 := hf10.lt
    have c0_hf10 : un4.cell? ⟨(g10 + 1), 0, none⟩ = some (.int .i64 0) := hf10.cellv 0 rfl
    have c1_hf10 : un4.cell? ⟨(g10 + 1), 1, none⟩ = some (.int .i64 0) := hf10.cellv 1 rfl
    go_wp2_with fail
    clear lt_hf10 c0_hf10 c1_hf10
    refine (lives8_any un4).mono ?_
    rintro e wl ⟨rfl, hbl⟩
    go_wp2_with fail
    go_ret
    exact ⟨rfl, hB.trans (hbl.mono hB.size)⟩
  by_cases hap : a = p
  · have hpa : (p != a) = false := by rw [hap]; simp
    replace E5 := Lib.hid (E5.out.trans (if_neg (fun h => h.2 hap)))
    replace hap := Lib.hid hap
    refine (openParse_any u9 A1 L.length c1 L p by1 (by omega)).mono ?_
    rintro e v10 ⟨hb, hP⟩
    rw [E5.out] at hP
    obtain ⟨X10, m10, d10, cs10, rfl, -, -⟩ := hP.yes
    clear hP
    replace hq := hq.below hb hq.lt
    replace hx6 := hx6.below hb hx6.lt
    replace hf6 := hf6.below hb hf6.lt
    replace hx7 := hx7.below hb hx7.lt
    replace hf7 := hf7.below hb hf7.lt
    replace hx8 := hx8.below hb hx8.lt
    replace hf8 := hf8.below hb hf8.lt
    replace hx9 := hx9.below hb hx9.lt
    replace hf9 := hf9.below hb hf9.lt
    replace hS := Lat.seen hS hb
    replace hS6 := Lat.seen hS6 hb
    replace hS7 := Lat.seen hS7 hb
    replace by1 := by1.nx hb
    replace hB := hB.trans (hb.mono hB.size)
    clear hb
    have hx10 := (Blk.new v10 57 #[.int .i64 a, .int .i64 h, .int .u32 id, .slice X10 m10 d10]).alloc (.cells #[.int .i64 0, .int .i64 0, .slice none 0 0] 31)
    have hf10 : Blk ((v10.alloc (.cells #[.int .i64 a, .int .i64 h, .int .u32 id, .slice X10 m10 d10] 57)).alloc (.cells #[.int .i64 0, .int .i64 0, .slice none 0 0] 31)) (v10.heap.size + 1) 31 #[.int .i64 0, .int .i64 0, .slice none 0 0] := by
      have := Blk.new (v10.alloc (.cells #[.int .i64 a, .int .i64 h, .int .u32 id, .slice X10 m10 d10] 57)) 31 #[.int .i64 0, .int .i64 0, .slice none 0 0]
      simpa using this
    have hba := ((Below.refl v10.heap.size v10).alloc (Nat.le_refl _) (.cells #[.int .i64 a, .int .i64 h, .int .u32 id, .slice X10 m10 d10] 57)).alloc (by simp) (.cells #[.int .i64 0, .int .i64 0, .slice none 0 0] 31)
    replace hq := hq.below hba hq.lt
    replace hx6 := hx6.below hba hx6.lt
    replace hf6 := hf6.below hba hf6.lt
    replace hx7 := hx7.below hba hx7.lt
    replace hf7 := hf7.below hba hf7.lt
    replace hx8 := hx8.below hba hx8.lt
    replace hf8 := hf8.below hba hf8.lt
    replace hx9 := hx9.below hba hx9.lt
    replace hf9 := hf9.below hba hf9.lt
    replace hS := Lat.seen hS hba
    replace hS6 := Lat.seen hS6 hba
    replace hS7 := Lat.seen hS7 hba
    replace by1 := by1.nx hba
    replace hB := hB.trans (hba.mono hB.size)
    clear hba
    go_upto_region 11 with (fail)
    generalize (v10.alloc (.cells #[.int .i64 a, .int .i64 h, .int .u32 id, .slice X10 m10 d10] 57)).alloc (.cells #[.int .i64 0, .int .i64 0, .slice none 0 0] 31) = u10 at *
    generalize v10.heap.size = g10 at *
    have hba := (Below.refl u10.heap.size u10).alloc (Nat.le_refl _) (.cells #[.int .i64 2, .int .i64 0, .slice none 0 0] 31)
    have hno := Blk.new u10 31 #[.int .i64 2, .int .i64 0, .slice none 0 0]
    have lt10 := hq.lt
    have pq : u10.cell? ⟨w.heap.size, 0, none⟩ = some (.int .i64 a) := hq.cellv 0 rfl
    replace hq := hq.below hba hq.lt
    replace hx6 := hx6.below hba hx6.lt
    replace hf6 := hf6.below hba hf6.lt
    replace hx7 := hx7.below hba hx7.lt
    replace hf7 := hf7.below hba hf7.lt
    replace hx8 := hx8.below hba hx8.lt
    replace hf8 := hf8.below hba hf8.lt
    replace hx9 := hx9.below hba hx9.lt
    replace hf9 := hf9.below hba hf9.lt
    replace hf10 := hf10.below hba hf10.lt
    replace hS := Lat.seen hS hba
    replace hS6 := Lat.seen hS6 hba
    replace hS7 := Lat.seen hS7 hba
    replace by1 := by1.nx hba
    replace hB := hB.trans (hba.mono hB.size)
    clear hba
    go_upto_region 13 with (fail)
    generalize u10.alloc (.cells #[.int .i64 2, .int .i64 0, .slice none 0 0] 31) = un at *
    clear lt10 pq
    have lt_hf6 := hf6.lt
    have c0_hf6 : un.cell? ⟨(g6 + 1), 0, none⟩ = some (.int .i64 0) := hf6.cellv 0 rfl
    have lt_hf7 := hf7.lt
    have c0_hf7 : un.cell? ⟨(g7 + 1), 0, none⟩ = some (.int .i64 0) := hf7.cellv 0 rfl
    have lt_hx6 := hx6.lt
    have c0_hx6 : un.cell? ⟨g6, 0, none⟩ = some (.int .i64 a) := hx6.cellv 0 rfl
    have c1_hx6 : un.cell? ⟨g6, 1, none⟩ = some (.int .i64 h) := hx6.cellv 1 rfl
    have c2_hx6 : un.cell? ⟨g6, 2, none⟩ = some (.int .u32 id) := hx6.cellv 2 rfl
    have c3_hx6 : un.cell? ⟨g6, 3, none⟩ = some (.slice X6 m6 d6) := hx6.cellv 3 rfl
    have lt_hq := hq.lt
    have c0_hq : un.cell? ⟨w.heap.size, 0, none⟩ = some (.int .i64 a) := hq.cellv 0 rfl
    have c1_hq : un.cell? ⟨w.heap.size, 1, none⟩ = some (.int .i64 h) := hq.cellv 1 rfl
    have c2_hq : un.cell? ⟨w.heap.size, 2, none⟩ = some (.int .u32 id) := hq.cellv 2 rfl
    have c3_hq : un.cell? ⟨w.heap.size, 3, none⟩ = some (.slice A n c) := hq.cellv 3 rfl
    go_wp2_with fail
    clear lt_hf6 c0_hf6
    clear lt_hf7 c0_hf7
    clear lt_hx6 c0_hx6 c1_hx6 c2_hx6 c3_hx6
    clear lt_hq c0_hq c1_hq c2_hq c3_hq
    refine (openSame_any un a h id X6 m6 d6 cs6 a h id A n c cs hS6 hS hm6).mono ?_
    rintro e un1 ⟨rfl, hb⟩
    rw [hsm6.out]
    replace hq := hq.below hb hq.lt
    replace hx6 := hx6.below hb hx6.lt
    replace hf6 := hf6.below hb hf6.lt
    replace hx7 := hx7.below hb hx7.lt
    replace hf7 := hf7.below hb hf7.lt
    replace hx8 := hx8.below hb hx8.lt
    replace hf8 := hf8.below hb hf8.lt
    replace hx9 := hx9.below hb hx9.lt
    replace hf9 := hf9.below hb hf9.lt
    replace hf10 := hf10.below hb hf10.lt
    replace hno := hno.below hb hno.lt
    replace hS := Lat.seen hS hb
    replace hS6 := Lat.seen hS6 hb
    replace hS7 := Lat.seen hS7 hb
    replace by1 := by1.nx hb
    replace hB := hB.trans (hb.mono hB.size)
    clear hb
    have lt_hx7 := hx7.lt
    have c0_hx7 : un1.cell? ⟨g7, 0, none⟩ = some (.int .i64 a) := hx7.cellv 0 rfl
    have c1_hx7 : un1.cell? ⟨g7, 1, none⟩ = some (.int .i64 h) := hx7.cellv 1 rfl
    have c2_hx7 : un1.cell? ⟨g7, 2, none⟩ = some (.int .u32 id) := hx7.cellv 2 rfl
    have c3_hx7 : un1.cell? ⟨g7, 3, none⟩ = some (.slice X7 m7 d7) := hx7.cellv 3 rfl
    have lt_hq := hq.lt
    have c0_hq : un1.cell? ⟨w.heap.size, 0, none⟩ = some (.int .i64 a) := hq.cellv 0 rfl
    have c1_hq : un1.cell? ⟨w.heap.size, 1, none⟩ = some (.int .i64 h) := hq.cellv 1 rfl
    have c2_hq : un1.cell? ⟨w.heap.size, 2, none⟩ = some (.int .u32 id) := hq.cellv 2 rfl
    have c3_hq : un1.cell? ⟨w.heap.size, 3, none⟩ = some (.slice A n c) := hq.cellv 3 rfl
    go_wp2_with fail
    clear lt_hx7 c0_hx7 c1_hx7 c2_hx7 c3_hx7
    clear lt_hq c0_hq c1_hq c2_hq c3_hq
    refine (openSame_any un1 a h id X7 m7 d7 cs7 a h id A n c cs hS7 hS hm7).mono ?_
    rintro e un2 ⟨rfl, hb⟩
    rw [hsm7.out]
    replace hq := hq.below hb hq.lt
    replace hx6 := hx6.below hb hx6.lt
    replace hf6 := hf6.below hb hf6.lt
    replace hx7 := hx7.below hb hx7.lt
    replace hf7 := hf7.below hb hf7.lt
    replace hx8 := hx8.below hb hx8.lt
    replace hf8 := hf8.below hb hf8.lt
    replace hx9 := hx9.below hb hx9.lt
    replace hf9 := hf9.below hb hf9.lt
    replace hf10 := hf10.below hb hf10.lt
    replace hno := hno.below hb hno.lt
    replace hS := Lat.seen hS hb
    replace hS6 := Lat.seen hS6 hb
    replace hS7 := Lat.seen hS7 hb
    replace by1 := by1.nx hb
    replace hB := hB.trans (hb.mono hB.size)
    clear hb
    have lt_hf8 := hf8.lt
    have c0_hf8 : un2.cell? ⟨(g8 + 1), 0, none⟩ = some (.int .i64 2) := hf8.cellv 0 rfl
    have c1_hf8 : un2.cell? ⟨(g8 + 1), 1, none⟩ = some (.int .i64 0) := hf8.cellv 1 rfl
    have c2_hf8 : un2.cell? ⟨(g8 + 1), 2, none⟩ = some (.slice X8 0 d8) := hf8.cellv 2 rfl
    have lt_hno := hno.lt
    have c0_hno : un2.cell? ⟨u10.heap.size, 0, none⟩ = some (.int .i64 2) := hno.cellv 0 rfl
    have c1_hno : un2.cell? ⟨u10.heap.size, 1, none⟩ = some (.int .i64 0) := hno.cellv 1 rfl
    have c2_hno : un2.cell? ⟨u10.heap.size, 2, none⟩ = some (.slice none 0 0) := hno.cellv 2 rfl
    go_wp2_with fail
    clear lt_hf8 c0_hf8 c1_hf8 c2_hf8
    clear lt_hno c0_hno c1_hno c2_hno
    refine (faults_any un2 2 0 X8 0 d8 [] 2 0 none 0 0 [] 0 0 (byt_empty _ _ _) (byt_empty _ _ _) (Nat.zero_le _) (Nat.zero_le _)).mono ?_
    rintro e un3 ⟨rfl, hb⟩
    rw [faultB_refl]
    replace hq := hq.below hb hq.lt
    replace hx6 := hx6.below hb hx6.lt
    replace hf6 := hf6.below hb hf6.lt
    replace hx7 := hx7.below hb hx7.lt
    replace hf7 := hf7.below hb hf7.lt
    replace hx8 := hx8.below hb hx8.lt
    replace hf8 := hf8.below hb hf8.lt
    replace hx9 := hx9.below hb hx9.lt
    replace hf9 := hf9.below hb hf9.lt
    replace hf10 := hf10.below hb hf10.lt
    replace hno := hno.below hb hno.lt
    replace hS := Lat.seen hS hb
    replace hS6 := Lat.seen hS6 hb
    replace hS7 := Lat.seen hS7 hb
    replace by1 := by1.nx hb
    replace hB := hB.trans (hb.mono hB.size)
    clear hb
    have lt_hf9 := hf9.lt
    have c0_hf9 : un3.cell? ⟨(g9 + 1), 0, none⟩ = some (.int .i64 2) := hf9.cellv 0 rfl
    have c1_hf9 : un3.cell? ⟨(g9 + 1), 1, none⟩ = some (.int .i64 0) := hf9.cellv 1 rfl
    have c2_hf9 : un3.cell? ⟨(g9 + 1), 2, none⟩ = some (.slice X9 0 d9) := hf9.cellv 2 rfl
    have lt_hno := hno.lt
    have c0_hno : un3.cell? ⟨u10.heap.size, 0, none⟩ = some (.int .i64 2) := hno.cellv 0 rfl
    have c1_hno : un3.cell? ⟨u10.heap.size, 1, none⟩ = some (.int .i64 0) := hno.cellv 1 rfl
    have c2_hno : un3.cell? ⟨u10.heap.size, 2, none⟩ = some (.slice none 0 0) := hno.cellv 2 rfl
    go_wp2_with fail
    clear lt_hf9 c0_hf9 c1_hf9 c2_hf9
    clear lt_hno c0_hno c1_hno c2_hno
    refine (faults_any un3 2 0 X9 0 d9 [] 2 0 none 0 0 [] 0 0 (byt_empty _ _ _) (byt_empty _ _ _) (Nat.zero_le _) (Nat.zero_le _)).mono ?_
    rintro e un4 ⟨rfl, hb⟩
    rw [faultB_refl]
    replace hq := hq.below hb hq.lt
    replace hx6 := hx6.below hb hx6.lt
    replace hf6 := hf6.below hb hf6.lt
    replace hx7 := hx7.below hb hx7.lt
    replace hf7 := hf7.below hb hf7.lt
    replace hx8 := hx8.below hb hx8.lt
    replace hf8 := hf8.below hb hf8.lt
    replace hx9 := hx9.below hb hx9.lt
    replace hf9 := hf9.below hb hf9.lt
    replace hf10 := hf10.below hb hf10.lt
    replace hno := hno.below hb hno.lt
    replace hS := Lat.seen hS hb
    replace hS6 := Lat.seen hS6 hb
    replace hS7 := Lat.seen hS7 hb
    replace by1 := by1.nx hb
    replace hB := hB.trans (hb.mono hB.size)
    clear hb
    have lt_hf10 := hf10.lt
    have c0_hf10 : un4.cell? ⟨(g10 + 1), 0, none⟩ = some (.int .i64 0) := hf10.cellv 0 rfl
    have c1_hf10 : un4.cell? ⟨(g10 + 1), 1, none⟩ = some (.int .i64 0) := hf10.cellv 1 rfl
    go_wp2_with fail
    clear lt_hf10 c0_hf10 c1_hf10
    refine (lives8_any un4).mono ?_
    rintro e wl ⟨rfl, hbl⟩
    go_wp2_with fail
    go_ret
    exact ⟨rfl, hB.trans (hbl.mono hB.size)⟩
  have hpa : (p != a) = true := by rw [bne_iff_ne]; exact fun e => hap e.symm
  replace E5 := Lib.hid (E5.out.trans (if_pos ⟨h1p, hap⟩))
  replace hap := Lib.hid hap
  refine (openParse_any u9 A1 L.length c1 L p by1 (by omega)).mono ?_
  rintro e v10 ⟨hb, hP⟩
  rw [E5.out] at hP
  obtain ⟨X10, d10, rfl⟩ := hP.no
  clear hP
  replace hq := hq.below hb hq.lt
  replace hx6 := hx6.below hb hx6.lt
  replace hf6 := hf6.below hb hf6.lt
  replace hx7 := hx7.below hb hx7.lt
  replace hf7 := hf7.below hb hf7.lt
  replace hx8 := hx8.below hb hx8.lt
  replace hf8 := hf8.below hb hf8.lt
  replace hx9 := hx9.below hb hx9.lt
  replace hf9 := hf9.below hb hf9.lt
  replace hS := Lat.seen hS hb
  replace hS6 := Lat.seen hS6 hb
  replace hS7 := Lat.seen hS7 hb
  replace by1 := by1.nx hb
  replace hB := hB.trans (hb.mono hB.size)
  clear hb
  have hx10 := (Blk.new v10 57 #[.int .i64 0, .int .i64 0, .int .u32 0, .slice none 0 0]).alloc (.cells #[.int .i64 2, .int .i64 2, .slice X10 0 d10] 31)
  have hf10 : Blk ((v10.alloc (.cells #[.int .i64 0, .int .i64 0, .int .u32 0, .slice none 0 0] 57)).alloc (.cells #[.int .i64 2, .int .i64 2, .slice X10 0 d10] 31)) (v10.heap.size + 1) 31 #[.int .i64 2, .int .i64 2, .slice X10 0 d10] := by
    have := Blk.new (v10.alloc (.cells #[.int .i64 0, .int .i64 0, .int .u32 0, .slice none 0 0] 57)) 31 #[.int .i64 2, .int .i64 2, .slice X10 0 d10]
    simpa using this
  have hba := ((Below.refl v10.heap.size v10).alloc (Nat.le_refl _) (.cells #[.int .i64 0, .int .i64 0, .int .u32 0, .slice none 0 0] 57)).alloc (by simp) (.cells #[.int .i64 2, .int .i64 2, .slice X10 0 d10] 31)
  replace hq := hq.below hba hq.lt
  replace hx6 := hx6.below hba hx6.lt
  replace hf6 := hf6.below hba hf6.lt
  replace hx7 := hx7.below hba hx7.lt
  replace hf7 := hf7.below hba hf7.lt
  replace hx8 := hx8.below hba hx8.lt
  replace hf8 := hf8.below hba hf8.lt
  replace hx9 := hx9.below hba hx9.lt
  replace hf9 := hf9.below hba hf9.lt
  replace hS := Lat.seen hS hba
  replace hS6 := Lat.seen hS6 hba
  replace hS7 := Lat.seen hS7 hba
  replace by1 := by1.nx hba
  replace hB := hB.trans (hba.mono hB.size)
  clear hba
  go_upto_region 11 with (fail)
  generalize (v10.alloc (.cells #[.int .i64 0, .int .i64 0, .int .u32 0, .slice none 0 0] 57)).alloc (.cells #[.int .i64 2, .int .i64 2, .slice X10 0 d10] 31) = u10 at *
  generalize v10.heap.size = g10 at *
  have hba := (Below.refl u10.heap.size u10).alloc (Nat.le_refl _) (.cells #[.int .i64 2, .int .i64 0, .slice none 0 0] 31)
  have hno := Blk.new u10 31 #[.int .i64 2, .int .i64 0, .slice none 0 0]
  have lt10 := hq.lt
  have pq : u10.cell? ⟨w.heap.size, 0, none⟩ = some (.int .i64 a) := hq.cellv 0 rfl
  replace hq := hq.below hba hq.lt
  replace hx6 := hx6.below hba hx6.lt
  replace hf6 := hf6.below hba hf6.lt
  replace hx7 := hx7.below hba hx7.lt
  replace hf7 := hf7.below hba hf7.lt
  replace hx8 := hx8.below hba hx8.lt
  replace hf8 := hf8.below hba hf8.lt
  replace hx9 := hx9.below hba hx9.lt
  replace hf9 := hf9.below hba hf9.lt
  replace hf10 := hf10.below hba hf10.lt
  replace hS := Lat.seen hS hba
  replace hS6 := Lat.seen hS6 hba
  replace hS7 := Lat.seen hS7 hba
  replace by1 := by1.nx hba
  replace hB := hB.trans (hba.mono hB.size)
  clear hba
  go_upto_region 13 with (fail)
  generalize u10.alloc (.cells #[.int .i64 2, .int .i64 0, .slice none 0 0] 31) = un at *
  clear lt10 pq
  have lt_hf6 := hf6.lt
  have c0_hf6 : un.cell? ⟨(g6 + 1), 0, none⟩ = some (.int .i64 0) := hf6.cellv 0 rfl
  have lt_hf7 := hf7.lt
  have c0_hf7 : un.cell? ⟨(g7 + 1), 0, none⟩ = some (.int .i64 0) := hf7.cellv 0 rfl
  have lt_hx6 := hx6.lt
  have c0_hx6 : un.cell? ⟨g6, 0, none⟩ = some (.int .i64 a) := hx6.cellv 0 rfl
  have c1_hx6 : un.cell? ⟨g6, 1, none⟩ = some (.int .i64 h) := hx6.cellv 1 rfl
  have c2_hx6 : un.cell? ⟨g6, 2, none⟩ = some (.int .u32 id) := hx6.cellv 2 rfl
  have c3_hx6 : un.cell? ⟨g6, 3, none⟩ = some (.slice X6 m6 d6) := hx6.cellv 3 rfl
  have lt_hq := hq.lt
  have c0_hq : un.cell? ⟨w.heap.size, 0, none⟩ = some (.int .i64 a) := hq.cellv 0 rfl
  have c1_hq : un.cell? ⟨w.heap.size, 1, none⟩ = some (.int .i64 h) := hq.cellv 1 rfl
  have c2_hq : un.cell? ⟨w.heap.size, 2, none⟩ = some (.int .u32 id) := hq.cellv 2 rfl
  have c3_hq : un.cell? ⟨w.heap.size, 3, none⟩ = some (.slice A n c) := hq.cellv 3 rfl
  go_wp2_with fail
  clear lt_hf6 c0_hf6
  clear lt_hf7 c0_hf7
  clear lt_hx6 c0_hx6 c1_hx6 c2_hx6 c3_hx6
  clear lt_hq c0_hq c1_hq c2_hq c3_hq
  refine (openSame_any un a h id X6 m6 d6 cs6 a h id A n c cs hS6 hS hm6).mono ?_
  rintro e un1 ⟨rfl, hb⟩
  rw [hsm6.out]
  replace hq := hq.below hb hq.lt
  replace hx6 := hx6.below hb hx6.lt
  replace hf6 := hf6.below hb hf6.lt
  replace hx7 := hx7.below hb hx7.lt
  replace hf7 := hf7.below hb hf7.lt
  replace hx8 := hx8.below hb hx8.lt
  replace hf8 := hf8.below hb hf8.lt
  replace hx9 := hx9.below hb hx9.lt
  replace hf9 := hf9.below hb hf9.lt
  replace hf10 := hf10.below hb hf10.lt
  replace hno := hno.below hb hno.lt
  replace hS := Lat.seen hS hb
  replace hS6 := Lat.seen hS6 hb
  replace hS7 := Lat.seen hS7 hb
  replace by1 := by1.nx hb
  replace hB := hB.trans (hb.mono hB.size)
  clear hb
  have lt_hx7 := hx7.lt
  have c0_hx7 : un1.cell? ⟨g7, 0, none⟩ = some (.int .i64 a) := hx7.cellv 0 rfl
  have c1_hx7 : un1.cell? ⟨g7, 1, none⟩ = some (.int .i64 h) := hx7.cellv 1 rfl
  have c2_hx7 : un1.cell? ⟨g7, 2, none⟩ = some (.int .u32 id) := hx7.cellv 2 rfl
  have c3_hx7 : un1.cell? ⟨g7, 3, none⟩ = some (.slice X7 m7 d7) := hx7.cellv 3 rfl
  have lt_hq := hq.lt
  have c0_hq : un1.cell? ⟨w.heap.size, 0, none⟩ = some (.int .i64 a) := hq.cellv 0 rfl
  have c1_hq : un1.cell? ⟨w.heap.size, 1, none⟩ = some (.int .i64 h) := hq.cellv 1 rfl
  have c2_hq : un1.cell? ⟨w.heap.size, 2, none⟩ = some (.int .u32 id) := hq.cellv 2 rfl
  have c3_hq : un1.cell? ⟨w.heap.size, 3, none⟩ = some (.slice A n c) := hq.cellv 3 rfl
  go_wp2_with fail
  clear lt_hx7 c0_hx7 c1_hx7 c2_hx7 c3_hx7
  clear lt_hq c0_hq c1_hq c2_hq c3_hq
  refine (openSame_any un1 a h id X7 m7 d7 cs7 a h id A n c cs hS7 hS hm7).mono ?_
  rintro e un2 ⟨rfl, hb⟩
  rw [hsm7.out]
  replace hq := hq.below hb hq.lt
  replace hx6 := hx6.below hb hx6.lt
  replace hf6 := hf6.below hb hf6.lt
  replace hx7 := hx7.below hb hx7.lt
  replace hf7 := hf7.below hb hf7.lt
  replace hx8 := hx8.below hb hx8.lt
  replace hf8 := hf8.below hb hf8.lt
  replace hx9 := hx9.below hb hx9.lt
  replace hf9 := hf9.below hb hf9.lt
  replace hf10 := hf10.below hb hf10.lt
  replace hno := hno.below hb hno.lt
  replace hS := Lat.seen hS hb
  replace hS6 := Lat.seen hS6 hb
  replace hS7 := Lat.seen hS7 hb
  replace by1 := by1.nx hb
  replace hB := hB.trans (hb.mono hB.size)
  clear hb
  have lt_hf8 := hf8.lt
  have c0_hf8 : un2.cell? ⟨(g8 + 1), 0, none⟩ = some (.int .i64 2) := hf8.cellv 0 rfl
  have c1_hf8 : un2.cell? ⟨(g8 + 1), 1, none⟩ = some (.int .i64 0) := hf8.cellv 1 rfl
  have c2_hf8 : un2.cell? ⟨(g8 + 1), 2, none⟩ = some (.slice X8 0 d8) := hf8.cellv 2 rfl
  have lt_hno := hno.lt
  have c0_hno : un2.cell? ⟨u10.heap.size, 0, none⟩ = some (.int .i64 2) := hno.cellv 0 rfl
  have c1_hno : un2.cell? ⟨u10.heap.size, 1, none⟩ = some (.int .i64 0) := hno.cellv 1 rfl
  have c2_hno : un2.cell? ⟨u10.heap.size, 2, none⟩ = some (.slice none 0 0) := hno.cellv 2 rfl
  go_wp2_with fail
  clear lt_hf8 c0_hf8 c1_hf8 c2_hf8
  clear lt_hno c0_hno c1_hno c2_hno
  refine (faults_any un2 2 0 X8 0 d8 [] 2 0 none 0 0 [] 0 0 (byt_empty _ _ _) (byt_empty _ _ _) (Nat.zero_le _) (Nat.zero_le _)).mono ?_
  rintro e un3 ⟨rfl, hb⟩
  rw [faultB_refl]
  replace hq := hq.below hb hq.lt
  replace hx6 := hx6.below hb hx6.lt
  replace hf6 := hf6.below hb hf6.lt
  replace hx7 := hx7.below hb hx7.lt
  replace hf7 := hf7.below hb hf7.lt
  replace hx8 := hx8.below hb hx8.lt
  replace hf8 := hf8.below hb hf8.lt
  replace hx9 := hx9.below hb hx9.lt
  replace hf9 := hf9.below hb hf9.lt
  replace hf10 := hf10.below hb hf10.lt
  replace hno := hno.below hb hno.lt
  replace hS := Lat.seen hS hb
  replace hS6 := Lat.seen hS6 hb
  replace hS7 := Lat.seen hS7 hb
  replace by1 := by1.nx hb
  replace hB := hB.trans (hb.mono hB.size)
  clear hb
  have lt_hf9 := hf9.lt
  have c0_hf9 : un3.cell? ⟨(g9 + 1), 0, none⟩ = some (.int .i64 2) := hf9.cellv 0 rfl
  have c1_hf9 : un3.cell? ⟨(g9 + 1), 1, none⟩ = some (.int .i64 0) := hf9.cellv 1 rfl
  have c2_hf9 : un3.cell? ⟨(g9 + 1), 2, none⟩ = some (.slice X9 0 d9) := hf9.cellv 2 rfl
  have lt_hno := hno.lt
  have c0_hno : un3.cell? ⟨u10.heap.size, 0, none⟩ = some (.int .i64 2) := hno.cellv 0 rfl
  have c1_hno : un3.cell? ⟨u10.heap.size, 1, none⟩ = some (.int .i64 0) := hno.cellv 1 rfl
  have c2_hno : un3.cell? ⟨u10.heap.size, 2, none⟩ = some (.slice none 0 0) := hno.cellv 2 rfl
  go_wp2_with fail
  clear lt_hf9 c0_hf9 c1_hf9 c2_hf9
  clear lt_hno c0_hno c1_hno c2_hno
  refine (faults_any un3 2 0 X9 0 d9 [] 2 0 none 0 0 [] 0 0 (byt_empty _ _ _) (byt_empty _ _ _) (Nat.zero_le _) (Nat.zero_le _)).mono ?_
  rintro e un4 ⟨rfl, hb⟩
  rw [faultB_refl]
  replace hq := hq.below hb hq.lt
  replace hx6 := hx6.below hb hx6.lt
  replace hf6 := hf6.below hb hf6.lt
  replace hx7 := hx7.below hb hx7.lt
  replace hf7 := hf7.below hb hf7.lt
  replace hx8 := hx8.below hb hx8.lt
  replace hf8 := hf8.below hb hf8.lt
  replace hx9 := hx9.below hb hx9.lt
  replace hf9 := hf9.below hb hf9.lt
  replace hf10 := hf10.below hb hf10.lt
  replace hno := hno.below hb hno.lt
  replace hS := Lat.seen hS hb
  replace hS6 := Lat.seen hS6 hb
  replace hS7 := Lat.seen hS7 hb
  replace by1 := by1.nx hb
  replace hB := hB.trans (hb.mono hB.size)
  clear hb
  have lt_hf10 := hf10.lt
  have c0_hf10 : un4.cell? ⟨(g10 + 1), 0, none⟩ = some (.int .i64 2) := hf10.cellv 0 rfl
  have c1_hf10 : un4.cell? ⟨(g10 + 1), 1, none⟩ = some (.int .i64 2) := hf10.cellv 1 rfl
  go_wp2_with fail
  clear lt_hf10 c0_hf10 c1_hf10
  refine (lives8_any un4).mono ?_
  rintro e wl ⟨rfl, hbl⟩
  go_wp2_with fail
  go_ret
  exact ⟨rfl, hB.trans (hbl.mono hB.size)⟩
end Go.Proofs.Ytlpplclhjkbjbaa
