/- probe: ProbeEnds. -/
import Derived.Test.YtejgekoinbdhjaaPrV
namespace Go.Proofs.Ytejgekoinbdhjaa
set_option linter.unusedVariables false
open Go Go.RowKit Go.Maps

theorem gmap_und : Try.prog.underlying 150 = some (.map 3 152) := Try.underlying150
@[go_sem] theorem make_gmap (w : World) : (Instr.makeMap 150 none).run Try.prog w = .ok (.map (some w.heap.size)) (w.alloc (.map #[] 0)) := rfl
theorem asking_zero (w : World) : (zeroValue 152).run Try.prog w = .ok (.agg #[.int .i64 0, .int .i64 0]) w := by kernel_rfl
theorem fw_start {ev pa no : Int} {L : List Pr} (h : GoodP ev pa no 0 L) : fwL L = fun _ => none := by
  funext id
  by_cases hi : id ∈ L.map Pr.id
  · obtain ⟨r, hr, rfl⟩ := in_ids hi
    rw [fw_row h.dist hr]
    unfold waitOf
    rw [if_neg]
    have := (h.rows r hr).2.1
    omega
  · exact fw_no hi
theorem last_start (L : List Pr) (ev : Int) : lastF L ev 1 = fun _ => none := by
  funext id
  unfold lastF
  rw [if_neg fun q => absurd q.1 (by omega)]
theorem last_ids {L : List Pr} {ev N : Int} (h : 1 < N) (id : Int) : id ∈ L.map Pr.id ↔ (lastF L ev N id).isSome = true := by
  unfold lastF
  by_cases hi : id ∈ L.map Pr.id
  · rw [if_pos ⟨h, hi⟩]; simp [hi]
  · rw [if_neg fun q => hi q.2]; simp [hi]
theorem ask_len (no ev : Int) : ∀ (L : List Pr) (sq : Int), (askAll no ev sq L).2.2.length ≤ L.length
  | [], _ => by simp [askAll]
  | r :: L, sq => by
    unfold askAll
    split
    · have := ask_len no ev L (sq + 1)
      simp only [List.length_cons]
      omega
    · have := ask_len no ev L sq
      simp only [List.length_cons]
      omega
theorem lost_step {L : List Pr} {Ls : List (Int × Int)} {j : Nat} {x y : Int} (hq : Ls[j]? = some (x, y)) :
    upd (fun id => if id ∈ (Ls.take j).map Prod.fst then none else fwL L id) x none = fun id => if id ∈ (Ls.take (j + 1)).map Prod.fst then none else fwL L id := by
  funext id
  unfold upd
  rw [take_fst hq]
  simp only [List.mem_append, List.mem_singleton]
  by_cases e : id = x
  · rw [if_pos e, if_pos (.inr e)]
  · rw [if_neg e]
    by_cases h : id ∈ (Ls.take j).map Prod.fst
    · rw [if_pos h, if_pos (.inl h)]
    · rw [if_neg h, if_neg fun q => q.elim h e]
theorem mod_in (a e : Int) (h0 : 0 ≤ a) (h1 : a ≤ 255) (h2 : 1 ≤ e) (h3 : e ≤ 12) : 1 ≤ wrap64 (1 + a % e) ∧ wrap64 (1 + a % e) ≤ e := by
  have b0 := Int.emod_nonneg a (show e ≠ 0 by omega)
  have b1 := Int.emod_lt_of_pos a (show 0 < e by omega)
  generalize a % e = r at *
  unfold wrap64
  omega
set_option maxRecDepth 100000 in
set_option maxHeartbeats 16000000 in
theorem ends24_walk (ev0 pa0 : Int) (A1 : Option Addr) (n1 c1 : Nat) (l1 : List UInt8) (A2 : Option Addr) (n2 c2 : Nat) (bs : Nat → Bool) (w : World) (wz1 : 0 ≤ ev0 ∧ ev0 ≤ 255) (wz2 : 0 ≤ pa0 ∧ pa0 ≤ 255)
    (hS1 : Byt w w.heap.size A1 n1 l1) (hS2 : Flat w w.heap.size A2 n2 fun j => .bool (bs j)) :
    Calls Try.prog 15 #[.agg #[.int .u8 ev0, .int .u8 pa0], .slice A1 n1 c1, .slice A2 n2 c2] w fun e w' => e = .returned (.bool true) ∧ Below w.heap.size w w' := by
  have hB0 := (Below.refl w.heap.size w).alloc (Nat.le_refl _) (.cells #[.int .u8 ev0, .int .u8 pa0] 148)
  have hq0 := Blk.new w 148 #[.int .u8 ev0, .int .u8 pa0]
  go_enter Try.func15, Try.ntmps15
  go_upto_region 1 with (fail)
  generalize w.alloc (.cells #[.int .u8 ev0, .int .u8 pa0] 148) = w0 at *
  have u0 : w0.cell? ⟨w.heap.size, 0, none⟩ = some (.int .u8 ev0) := hq0.cellv 0 rfl
  have u1 : w0.cell? ⟨w.heap.size, 1, none⟩ = some (.int .u8 pa0) := hq0.cellv 1 rfl
  have lt0 := hq0.lt
  -- region 1: 0 1 2 3 4 5
  try refine wp_region_noPanic ?_
  have hs1r : Below w0.heap.size w0 w0.drew := (Below.refl _ _).drew
  refine wp_region_held_drew (S := fun w' => Below w0.heap.size w0 w') (by kernel_rfl) hs1r (fun _ => ?_)
  (refine held_takeA 0 (by rfl) ?_ (by kernel_rfl) (fun _ _ _ h => h) hs1r ?_ ?_; rotate_left; (focus (intro wq hSw; have hrd : ∀ b o, b < w0.heap.size → wq.cell? ⟨b, o, none⟩ = w0.cell? ⟨b, o, none⟩ := (fun b o h => hSw.cell (p := ⟨b, o, none⟩) h); go_simp; try with_reducible rfl; done)); try simp only [Act.put, List.setIfInBounds_toArray, List.set_cons_zero, List.set_cons_succ])
  (refine held_takeA 1 (by rfl) ?_ (by kernel_rfl) (fun _ _ _ h => h) hs1r ?_ ?_; rotate_left; (focus (intro wq hSw; have hrd : ∀ b o, b < w0.heap.size → wq.cell? ⟨b, o, none⟩ = w0.cell? ⟨b, o, none⟩ := (fun b o h => hSw.cell (p := ⟨b, o, none⟩) h); go_simp; try with_reducible rfl; done)); try simp only [Act.put, List.setIfInBounds_toArray, List.set_cons_zero, List.set_cons_succ])
  (refine held_takeA 2 (by rfl) ?_ (by kernel_rfl) (fun _ _ _ h => h) hs1r ?_ ?_; rotate_left; (focus (intro wq hSw; have hrd : ∀ b o, b < w0.heap.size → wq.cell? ⟨b, o, none⟩ = w0.cell? ⟨b, o, none⟩ := (fun b o h => hSw.cell (p := ⟨b, o, none⟩) h); go_simp; try with_reducible rfl; done)); try simp only [Act.put, List.setIfInBounds_toArray, List.set_cons_zero, List.set_cons_succ])
  (refine held_takeA 3 (by rfl) ?_ (by kernel_rfl) (fun _ _ _ h => h) hs1r ?_ ?_; rotate_left; (focus (intro wq hSw; have hrd : ∀ b o, b < w0.heap.size → wq.cell? ⟨b, o, none⟩ = w0.cell? ⟨b, o, none⟩ := (fun b o h => hSw.cell (p := ⟨b, o, none⟩) h); go_simp; try with_reducible rfl; done)); try simp only [Act.put, List.setIfInBounds_toArray, List.set_cons_zero, List.set_cons_succ])
  (refine held_takeA 4 (by rfl) ?_ (by kernel_rfl) (fun _ _ _ h => h) hs1r ?_ ?_; rotate_left; (focus (intro wq hSw; have hrd : ∀ b o, b < w0.heap.size → wq.cell? ⟨b, o, none⟩ = w0.cell? ⟨b, o, none⟩ := (fun b o h => hSw.cell (p := ⟨b, o, none⟩) h); go_simp; try with_reducible rfl; done)); try simp only [Act.put, List.setIfInBounds_toArray, List.set_cons_zero, List.set_cons_succ])
  (refine held_takeA 5 (by rfl) ?_ (by kernel_rfl) (fun _ _ _ h => h) hs1r ?_ ?_; rotate_left; (focus (intro wq hSw; have hrd : ∀ b o, b < w0.heap.size → wq.cell? ⟨b, o, none⟩ = w0.cell? ⟨b, o, none⟩ := (fun b o h => hSw.cell (p := ⟨b, o, none⟩) h); go_simp; try with_reducible rfl; done)); try simp only [Act.put, List.setIfInBounds_toArray, List.set_cons_zero, List.set_cons_succ])
  refine wpAnyH_done (by kernel_rfl) ?_ _
  try refine NoPanic.normal ?_
  have hx := hB0.drew
  clear u0 u1 lt0 hq0 hB0
  generalize w0.drew = w1 at *
  by_cases hbig : 40 < n1 ∨ 400 < n2
  · by_cases hb1 : 40 < n1
    · have d1 : decide ((40 : Int) < n1) = true := decide_eq_true (by omega)
      go_wp2_with (go_at_call 79; refine (lives24_any w1).mono ?_; rintro e w3 ⟨rfl, hb⟩)
      go_ret
      exact ⟨rfl, hx.trans (hb.mono hx.size)⟩
    · have d1 : decide ((40 : Int) < n1) = false := decide_eq_false (by omega)
      have d2 : decide ((400 : Int) < n2) = true := decide_eq_true (by omega)
      go_wp2_with (go_at_call 79; refine (lives24_any w1).mono ?_; rintro e w3 ⟨rfl, hb⟩)
      go_ret
      exact ⟨rfl, hx.trans (hb.mono hx.size)⟩
  have d1 : decide ((40 : Int) < n1) = false := decide_eq_false (by omega)
  have d2 : decide ((400 : Int) < n2) = false := decide_eq_false (by omega)
  go_upto_region 6 with (fail)
  have e1 : 1 ≤ 1 + ev0 % 12 ∧ 1 + ev0 % 12 ≤ 12 := by omega
  have e2 := mod_in pa0 (1 + ev0 % 12) wz2.1 wz2.2 e1.1 e1.2
  generalize 1 + ev0 % 12 = ev at *
  generalize wrap64 (1 + pa0 % ev) = pa at *
  go_wp2_with (go_at_call 81; refine (newX24 w1 ev pa (by omega) (by omega) (by omega) (by omega)).mono ?_; rintro e w3 ⟨g, X, rfl, hT, hX, hb3⟩)
  have hB3 := hx.trans (hb3.mono hx.size)
  have hX3 : ∀ k, X k → w.heap.size ≤ k := fun k q => Nat.le_trans hx.size (hX k q)
  clear hb3 hX hx
  go_loopw [13, 55] (fun _ i wr => ∃ (k : Nat) (L : List Pr), k ≤ n1 ∧ i = .int .i64 (k : Int) ∧ TabP wr X g ev pa 0 0 L ∧ (∀ r ∈ L, Okr ev pa 0 1 r) ∧ Below w.heap.size w wr) (fun _ i _ => n1 - (intOf i).toNat)
  case atStart => exact ⟨0, [], Nat.zero_le _, rfl, hT, by simp, hB3⟩
  case round =>
  clear hT hB3
  obtain ⟨k, L, hk, rfl, hT, hok, hB⟩ := hrel
  have hz := hB.size
  by_cases hlt : k < n1
  · obtain ⟨b, off, rfl, hb1, hcell⟩ := (hS1.below hB).2 (by omega)
    have c0 := hcell k hlt
    have lb : b < wr.heap.size := Nat.lt_of_lt_of_le hb1 hz
    have hki : (k : Int) < n1 := by omega
    go_wp2_with (go_at_call 72; refine (addX24 hT _ (by omega)).mono ?_; rintro e w4 ⟨rfl, hT4, hC4⟩)
    exact ⟨⟨k + 1, _, by omega, by go_num, hT4, add_ok _ hok, below_chg hB hC4 hX3 (Nat.le_refl _)⟩, by simp [intOf]; omega⟩
  · obtain rfl : k = n1 := by omega
    have hXl := hT.lt
    clear hlt
    have hm0 := FMap.made (V := Int × Int) (enc := aV) wr
    have hTa := hT.nx ((Below.refl wr.heap.size wr).alloc (Nat.le_refl _) (.map #[] 0))
    have hBa := hB.alloc hz (.map #[] 0)
    go_upto_region 13 with (fail)
    generalize hwa : wr.alloc (.map #[] 0) = wa at *
    have hsz := Lib.hid (show wa.heap.size = wr.heap.size + 1 by rw [← hwa]; simp)
    clear hwa
    have hm1 := hm0.nx ((Below.refl wa.heap.size wa).alloc (Nat.le_refl _) (.map #[] 0))
    have hl0 := FMap.made (V := Int) (enc := nV) wa
    have hTb := hTa.nx ((Below.refl wa.heap.size wa).alloc (Nat.le_refl _) (.map #[] 0))
    have hBb := hBa.alloc hBa.size (.map #[] 0)
    go_upto_region 14 with (fail)
    generalize wa.alloc (.map #[] 0) = wb at *
    have hfs := fw_start hT.good
    rw [← hfs] at hm1
    rw [← last_start L ev] at hl0
    have hmz : wa.heap.size ≠ wr.heap.size := by have := hsz.out; omega
    have hXm : ¬ X wr.heap.size := fun q => by have := hXl _ q; omega
    have hXn : ¬ X wa.heap.size := fun q => by have := hXl _ q; have := hsz.out; omega
    have hmw : w.heap.size ≤ wr.heap.size := hz
    have hnw : w.heap.size ≤ wa.heap.size := by have := hsz.out; omega
    clear hXl hm0 hBa hTa hT hB hfs hsz
    generalize wr.heap.size = mb at *
    generalize wa.heap.size = nb at *
    go_upto_region 16 with (fail)
    replace hX3 := Lib.hid hX3
    go_loopw [16, 17] (fun kv nv wr => ∃ (t : Nat) (L : List Pr) (N sq : Int) (kk : Nat), t ≤ 40 ∧ kv = .int .i64 (kk : Int) ∧ kk ≤ 256 * t ∧ nv = .int .i64 ((t : Int) + 1) ∧ TabP wr X g ev pa t sq L ∧ sq ≤ 256 * t ∧ (∀ r ∈ L, Okr ev pa t N r) ∧ (t : Int) + 1 ≤ N ∧ (N = 1 ∨ 1 + ev ≤ N) ∧ FMap aV wr mb (fwL L) ∧ FMap nV wr nb (lastF L ev N) ∧ Below w.heap.size w wr) (fun _ nv _ => 41 - (intOf nv).toNat)
    case atStart => exact ⟨0, L, 1, 0, 0, by omega, rfl, by omega, rfl, hTb, by omega, hok, by omega, .inl rfl, hm1, hl0, hBb⟩
    case round =>
    clear hTb hok hm1 hl0 hBb
    generalize wr = wo at *
    obtain ⟨t, L, N, sq, kk, ht, rfl, hkk, rfl, hT, hsq, hok, hN, hN2, hm, hn, hB⟩ := hrel
    have hz := hB.size
    by_cases hlt : t < 40
    · have dle : (t : Int) + 1 ≤ 40 := by omega
      have hG := hT.good
      obtain ⟨N', hN', hN2', hask, hok2, hids2, hlast2⟩ := tick_ask hG hok hN hN2
      have hlen := hG.len
      have hsq2 := (ask_sq (t + 1) ev (tick1 t pa L) sq).2
      have hbl := ask_len (t + 1) ev (tick1 t pa L) sq
      have htl : (tick1 t pa L).length = L.length := by unfold tick1; simp
      rw [htl] at hsq2 hbl
      have hnd := lost_nodup (no := (t : Int) + 1) (pa := pa) hG.dist
      have hat := fun p hp => lost_at (no := (t : Int)) hG.dist hok (p := p) hp
      have hfw := fun W hW => lost_fw (no := (t : Int)) (pa := pa) hG.dist (W := W) hW
      have hidI := hG.idIn
      have hll : (lostOf (t + 1) pa L).length ≤ L.length := by unfold lostOf; rw [List.length_map]; exact List.length_filter_le _ _
      have hmX := hm.lt
      have hnX := hn.lt
      go_upto_region 19 with (go_at_call 71; refine (tickX24 hT (by omega) (by omega)).mono ?_; rintro e w2 ⟨v1, v2, rfl, hr1, hr2, hT2, hC2⟩; obtain ⟨RA, RC, rfl, -, -, hs1⟩ := hr1.seen (Nat.le_refl _); obtain ⟨QA, QC, rfl, -, -, hs2⟩ := hr2.seen (Nat.le_refl _))
      have hB2 := below_chg hB hC2 hX3.out (Nat.le_refl _)
      have hm2 := hm.chg hC2 hXm
      have hn2 := hn.chg hC2 hXn
      have hz2 := hC2.size
      have hX2 : ∀ b, X b → ¬ (wo.heap.size ≤ b) := fun b q => by have := hT.lt b q; omega
      clear hr1 hr2 hC2 hT hm hn hB
      generalize lostOf ((t : Int) + 1) pa L = Ls at *
      generalize hM0 : askAll ((t : Int) + 1) ev sq (tick1 t pa L) = AK at *
      obtain ⟨M0, sq2, B⟩ := AK
      replace hM0 := Lib.hid hM0
      go_upto_region 20 with (fail)
      go_loopw [77] (fun iv wi => ∃ j : Nat, j ≤ Ls.length ∧ iv = .int .i64 (j : Int) ∧ FMap aV wi mb (fun id => if id ∈ (Ls.take j).map Prod.fst then none else fwL L id) ∧ Chg w2 wi (fun q => q = mb)) (fun iv _ => Ls.length - (intOf iv).toNat)
      case atStart => exact ⟨0, by omega, rfl, by simpa using hm2, Chg.refl _ _⟩
      case round =>
      generalize wr = wi at *
      obtain ⟨j, hj, rfl, hmj, hCj⟩ := hrel
      by_cases hjl : j < Ls.length
      · obtain ⟨qb, qo, x, y, rfl, hqb, hq, cx, cy⟩ := pr_cells (hCj.seen hs1 (fun b q => ⟨q.2, fun e => by omega⟩)) hjl
        obtain ⟨hin, hf⟩ := hat (x, y) (List.mem_of_getElem? hq)
        have hid : IdIn x := hidI x hin
        have hfj : (fun id => if id ∈ (Ls.take j).map Prod.fst then none else fwL L id) x = some (y, (t : Int) + 1 - pa) := by
          simp only
          rw [if_neg (fresh_fst hnd hq)]
          exact hf
        have hstp := Lib.hid (lost_step (L := L) hq)
        have hji : (j : Int) < Ls.length := by omega
        have hz3 := hCj.size
        have ltq : qb < wi.heap.size := by omega
        have hbx := (Below.refl wi.heap.size wi).alloc (Nat.le_refl _) (.cells #[.int .i64 x, .int .i64 y] 134)
        have hqx := Blk.new wi 134 #[.int .i64 x, .int .i64 y]
        go_upto_region 22 with (fail)
        clear cx cy
        generalize wi.alloc (.cells #[.int .i64 x, .int .i64 y] 134) = w3 at *
        obtain ⟨a, ha⟩ : ∃ a, a = (t : Int) + 1 - pa := ⟨_, rfl⟩
        rw [← ha] at hfj
        have kw : IntKind.i64.wrap ((t : Int) + 1 - a) = pa := by rw [IntWalk.i64_in _ (by omega)]; omega
        replace ha := Lib.hid ha
        have hm3 := hmj.nx hbx
        have lk : (Instr.lookup 150 (.map (some mb)) (.int .i64 x) true).run Try.prog w3 = .ok (.tuple #[.agg #[.int .i64 y, .int .i64 a], .bool true]) w3 := hm3.hit1 gmap_und hid hfj
        have s0 : w3.cell? ⟨wi.heap.size, 0, none⟩ = some (.int .i64 x) := hqx.cellv 0 rfl
        have ltx := hqx.lt
        have hby := (Below.refl w3.heap.size w3).alloc (Nat.le_refl _) (.cells #[.int .i64 y, .int .i64 a] 152)
        have hqy := Blk.new w3 152 #[.int .i64 y, .int .i64 a]
        go_upto_region 23 with (fail)
        clear s0 lk hfj
        generalize w3.alloc (.cells #[.int .i64 y, .int .i64 a] 152) = w4 at *
        have hm4 := hm3.nx hby
        have hqx4 := hqx.below hby hqx.lt
        have s0 : w4.cell? ⟨wi.heap.size, 0, none⟩ = some (.int .i64 x) := hqx4.cellv 0 rfl
        have s1 : w4.cell? ⟨wi.heap.size, 1, none⟩ = some (.int .i64 y) := hqx4.cellv 1 rfl
        have r0 : w4.cell? ⟨w3.heap.size, 0, none⟩ = some (.int .i64 y) := hqy.cellv 0 rfl
        have r1 : w4.cell? ⟨w3.heap.size, 1, none⟩ = some (.int .i64 a) := hqy.cellv 1 rfl
        have ltx4 := hqx4.lt
        have lty := hqy.lt
        go_wp2_with (refine wpList_fdel rfl hm4 gmap_und hid (.tmp 105) (.tmp 107) rfl rfl rfl ?_; intro w5 hm5 hg5)
        rw [hstp.out] at hm5
        have hC5 : Chg w2 w5 (fun q => q = mb) := ((hCj.trans (Chg.of_below hbx) fun _ _ q => q).trans (Chg.of_below hby) fun _ _ q => q).trans (Chg.of_grown (X := fun q => q = mb) hg5 rfl) fun _ _ q => q
        exact ⟨⟨j + 1, by omega, by go_num, hm5, hC5⟩, by simp [intOf]; omega⟩
      · obtain rfl : j = Ls.length := by omega
        rw [List.take_length] at hmj
        rw [hfw _ fun _ => rfl] at hmj
        go_upto_region 27 with (fail)
        have hT3 := hT2.chg hCj fun k q e => hXm (by subst e; exact q)
        have hn3 := hn2.chg hCj (fun q => hmz (by omega))
        have hs3 := hCj.seen hs2 (fun b q => ⟨q.2, fun e => by omega⟩)
        have hB3 := below_chg hB2 hCj (fun k e => by omega) (Nat.le_refl _)
        have hz3 := hCj.size
        clear hCj hT2 hn2 hm2 hs1 hs2 hB2 hfw hat hnd hll hjl hj
        generalize wi = w3 at *
        go_upto_region 28 with (fail)
        have hXl3 := hT3.lt
        have hnl3 := hn3.lt
        go_loopw [16, 111] (fun kv iv wi => ∃ (j m : Nat) (M : List Pr) (W : Int → Option (Int × Int)) (A : Int → Option Int), j ≤ B.length ∧ kv = .int .i64 (m : Int) ∧ m = kk + j ∧ iv = .int .i64 (j : Int) ∧ AskK ((t : Int) + 1) B M0 (fwL (tick1 t pa L)) (lastF L ev N) j M W A ∧ TabP wi X g ev pa ((t : Int) + 1) sq2 M ∧ (∀ r ∈ M, Okr ev pa ((t : Int) + 1) N' r) ∧ FMap aV wi mb W ∧ FMap nV wi nb A ∧ Chg w3 wi (fun q => X q ∨ q = mb ∨ q = nb)) (fun _ iv _ => B.length - (intOf iv).toNat)
        case atStart => exact ⟨0, kk, M0, _, _, by omega, rfl, rfl, rfl, AskK.start, hT3, hok2, hmj, hn3, Chg.refl _ _⟩
        case round =>
        clear hT3 hmj hn3
        generalize wr = wi at *
        obtain ⟨j, m, M, W, A, hj, rfl, hmk, rfl, hK, hTj, hokj, hmj, hnj, hCj⟩ := hrel
        replace hmk := Lib.hid hmk
        by_cases hjl : j < B.length
        · obtain ⟨qb, qo, x, y, rfl, hqb, hq, cx, cy⟩ := pr_cells (hCj.seen hs3 (fun b q => ⟨by omega, fun e => by rcases e with e | e | e; exact hX2 b e (by omega); omega; omega⟩)) hjl
          obtain ⟨f1, f2, f3⟩ := hK.now_ hask hq
          have hGj := hTj.good
          have hid : IdIn x := hGj.idIn x (by
            by_cases hi : x ∈ M.map Pr.id
            · exact hi
            · rw [fw_no hi] at f3; cases f3)
          have hji : (j : Int) < B.length := by omega
          have hz3 := hCj.size
          have ltq : qb < wi.heap.size := by omega
          have hbx := (Below.refl wi.heap.size wi).alloc (Nat.le_refl _) (.cells #[.int .i64 x, .int .i64 y] 134)
          have hqx := Blk.new wi 134 #[.int .i64 x, .int .i64 y]
          go_upto_region 30 with (fail)
          clear cx cy
          generalize wi.alloc (.cells #[.int .i64 x, .int .i64 y] 134) = w4 at *
          have hm4 := hmj.nx hbx
          have lk : (Instr.lookup 150 (.map (some mb)) (.int .i64 x) true).run Try.prog w4 = .ok (.tuple #[.agg #[.int .i64 0, .int .i64 0], .bool false]) w4 := hm4.miss1 gmap_und asking_zero hid f1
          have s0 : w4.cell? ⟨wi.heap.size, 0, none⟩ = some (.int .i64 x) := hqx.cellv 0 rfl
          have ltx := hqx.lt
          have hby := (Below.refl w4.heap.size w4).alloc (Nat.le_refl _) (.cells #[.int .i64 0, .int .i64 0] 152)
          go_upto_region 31 with (fail)
          clear s0 lk
          generalize w4.alloc (.cells #[.int .i64 0, .int .i64 0] 152) = w5 at *
          have hm5 := hm4.nx hby
          have hn5 := (hnj.nx hbx).nx hby
          have hqx5 := hqx.below hby hqx.lt
          have s0 : w5.cell? ⟨wi.heap.size, 0, none⟩ = some (.int .i64 x) := hqx5.cellv 0 rfl
          have s1 : w5.cell? ⟨wi.heap.size, 1, none⟩ = some (.int .i64 y) := hqx5.cellv 1 rfl
          have ltx5 := hqx5.lt
          have hm1 : (m : Int) + 1 ≤ 100000 := by have := hmk.out; omega
          rcases hlast0 : A x with _ | v0
          · have lk2 : (Instr.lookup 122 (.map (some nb)) (.int .i64 x) false).run Try.prog w5 = .ok (.int .i64 0) w5 := hn5.miss0 nmap_und (fun w => by kernel_rfl) hid hlast0
            go_upto_region 33 with (fail)
            clear lk2
            go_upto_region 34 with (refine wpList_fput rfl hm5 gmap_und hid (v := (y, (t : Int) + 1)) (.tmp 140) (.tmp 142) (.tmp 146) rfl rfl rfl rfl ?_; intro w6 hm6 hg6)
            have hC6 : Chg w5 w6 (fun q => q = mb) := Chg.of_grown hg6 rfl
            have hn6 := hn5.chg hC6 hmz
            have hqx6 := hC6.blk hqx5 (by omega)
            clear s0 s1 hg6
            have s0 : w6.cell? ⟨wi.heap.size, 0, none⟩ = some (.int .i64 x) := hqx6.cellv 0 rfl
            have ltx6 := hqx6.lt
            go_upto_region 35 with (refine wpList_fput rfl hn6 nmap_und hid (v := (t : Int) + 1) (.tmp 147) (.tmp 149) (.tmp 150) rfl rfl rfl rfl ?_; intro w7 hn7 hg7)
            have hC7 : Chg w6 w7 (fun q => q = nb) := Chg.of_grown hg7 rfl
            have hm7 := hm6.chg hC7 (fun e => hmz e.symm)
            have hqx7 := hC7.blk hqx6 (by omega)
            clear s0 hg7 ltx6 ltx5
            have s0 : w7.cell? ⟨wi.heap.size, 0, none⟩ = some (.int .i64 x) := hqx7.cellv 0 rfl
            have s1 : w7.cell? ⟨wi.heap.size, 1, none⟩ = some (.int .i64 y) := hqx7.cellv 1 rfl
            have ltx7 := hqx7.lt
            have hC57 : Chg w3 w7 (fun q => X q ∨ q = mb ∨ q = nb) := (((hCj.trans (Chg.of_below hbx) fun _ _ q => q).trans (Chg.of_below hby) fun _ _ q => q).trans hC6 fun _ _ q => .inr (.inl q)).trans hC7 fun _ _ q => .inr (.inr q)
            have hT7 := ((hTj.nx hbx).nx hby |>.chg hC6 fun k q e => hXm (by subst e; exact q)).chg hC7 fun k q e => hXn (by subst e; exact q)
            have hB7 := below_chg hB3 hC57 (fun k q => q.elim (hX3.out k) fun q => q.elim (fun e => by omega) fun e => by omega) (Nat.le_refl _)
            have hk7 : AskK ((t : Int) + 1) B M0 (fwL (tick1 t pa L)) (lastF L ev N) (j + 1) M (upd W x (some (y, (t : Int) + 1))) (upd A x (some ((t : Int) + 1))) := hK.none_ hask hq
            by_cases hk2 : m < n2
            · obtain ⟨ab, ao, rfl, hab, hac⟩ := hS2 (by omega)
              have ca : w7.cell? ⟨ab, ao + m, none⟩ = some (.bool (bs m)) := by rw [hB7.cell hab]; exact hac m hk2
              have lta : ab < w7.heap.size := Nat.lt_of_lt_of_le hab hB7.size
              have dk : decide ((m : Int) < n2) = true := decide_eq_true (by omega)
              cases hbm : bs m with
              | true =>
                rw [hbm] at ca
                replace hbm := Lib.hid hbm
                have hcl : fwL (clrP M x) x = none := by rw [clr_fwL hGj.dist x]; unfold upd; rw [if_pos rfl]
                have tok1 := True.intro
                go_upto_region 38 with (first
                  | (go_at_call 74; have tok2 := tok1; clear tok1; refine (resX24 hT7 x y hid).mono ?_; rw [res_ok f3]; rintro e w8 ⟨rfl, hT8, hC8⟩; have hqx8 := hC8.blk hqx7 (fun q => by have := hXl3 _ q; omega); have q0 : w8.cell? ⟨wi.heap.size, 0, none⟩ = some (.int .i64 x) := hqx8.cellv 0 rfl; have q1 : w8.cell? ⟨wi.heap.size, 1, none⟩ = some (.int .i64 y) := hqx8.cellv 1 rfl; have lt8 := hqx8.lt)
                  | (go_at_call 74; refine (resX24 hT8 x y hid).mono ?_; rw [res_no hcl]; rintro e w9 ⟨rfl, hT9, hC9⟩))
                have hm9 := (hm7.chg hC8 hXm).chg hC9 hXm
                have hn9 := (hn7.chg hC8 hXn).chg hC9 hXn
                have hqx9 := hC9.blk hqx8 (fun q => by have := hXl3 _ q; omega)
                have p0 : w9.cell? ⟨wi.heap.size, 0, none⟩ = some (.int .i64 x) := hqx9.cellv 0 rfl
                have lt9 := hqx9.lt
                clear s0 s1 q0 q1 ltx7 lt8
                go_upto_region 39 with (refine wpList_fdel rfl hm9 gmap_und hid (.tmp 171) (.tmp 173) rfl rfl rfl ?_; intro wx hmx hgx)
                have hCx : Chg w9 wx (fun q => q = mb) := Chg.of_grown hgx rfl
                have hCa : Chg w3 wx (fun q => X q ∨ q = mb ∨ q = nb) := ((hC57.trans hC8 fun _ _ q => .inl q).trans hC9 fun _ _ q => .inl q).trans hCx fun _ _ q => .inr (.inl q)
                go_wp2_with fail
                exact ⟨⟨j + 1, m + 1, clrP M x, _, _, by omega, by go_num, by have := hmk.out; omega, by go_num, hK.answer hask hGj.dist hq, hT9.chg hCx fun k q e => hXm (by subst e; exact q), Okr.clr hokj x, hmx, hn9.chg hCx hmz, hCa⟩, by simp [intOf]; omega⟩
              | false =>
                rw [hbm] at ca
                replace hbm := Lib.hid hbm
                go_wp2_with fail
                exact ⟨⟨j + 1, m + 1, M, _, _, by omega, by go_num, by have := hmk.out; omega, by go_num, hk7, hT7, hokj, hm7, hn7, hC57⟩, by simp [intOf]; omega⟩
            · have dk : decide ((m : Int) < n2) = false := decide_eq_false (by omega)
              go_wp2_with fail
              exact ⟨⟨j + 1, m + 1, M, _, _, by omega, by go_num, by have := hmk.out; omega, by go_num, hk7, hT7, hokj, hm7, hn7, hC57⟩, by simp [intOf]; omega⟩
          · obtain ⟨g1, g2⟩ := f2 v0 hlast0
            have kw : IntKind.i64.wrap ((t : Int) + 1 - v0) = ev := by rw [IntWalk.i64_in _ (by omega)]; exact g2
            replace g2 := Lib.hid g2
            have lk2 : (Instr.lookup 122 (.map (some nb)) (.int .i64 x) false).run Try.prog w5 = .ok (.int .i64 v0) w5 := hn5.hit0 nmap_und hid hlast0
            have gd : decide (0 < v0) = true := decide_eq_true g1
            go_upto_region 33 with (fail)
            clear lk2
            go_upto_region 34 with (refine wpList_fput rfl hm5 gmap_und hid (v := (y, (t : Int) + 1)) (.tmp 140) (.tmp 142) (.tmp 146) rfl rfl rfl rfl ?_; intro w6 hm6 hg6)
            have hC6 : Chg w5 w6 (fun q => q = mb) := Chg.of_grown hg6 rfl
            have hn6 := hn5.chg hC6 hmz
            have hqx6 := hC6.blk hqx5 (by omega)
            clear s0 s1 hg6
            have s0 : w6.cell? ⟨wi.heap.size, 0, none⟩ = some (.int .i64 x) := hqx6.cellv 0 rfl
            have ltx6 := hqx6.lt
            go_upto_region 35 with (refine wpList_fput rfl hn6 nmap_und hid (v := (t : Int) + 1) (.tmp 147) (.tmp 149) (.tmp 150) rfl rfl rfl rfl ?_; intro w7 hn7 hg7)
            have hC7 : Chg w6 w7 (fun q => q = nb) := Chg.of_grown hg7 rfl
            have hm7 := hm6.chg hC7 (fun e => hmz e.symm)
            have hqx7 := hC7.blk hqx6 (by omega)
            clear s0 hg7 ltx6 ltx5
            have s0 : w7.cell? ⟨wi.heap.size, 0, none⟩ = some (.int .i64 x) := hqx7.cellv 0 rfl
            have s1 : w7.cell? ⟨wi.heap.size, 1, none⟩ = some (.int .i64 y) := hqx7.cellv 1 rfl
            have ltx7 := hqx7.lt
            have hC57 : Chg w3 w7 (fun q => X q ∨ q = mb ∨ q = nb) := (((hCj.trans (Chg.of_below hbx) fun _ _ q => q).trans (Chg.of_below hby) fun _ _ q => q).trans hC6 fun _ _ q => .inr (.inl q)).trans hC7 fun _ _ q => .inr (.inr q)
            have hT7 := ((hTj.nx hbx).nx hby |>.chg hC6 fun k q e => hXm (by subst e; exact q)).chg hC7 fun k q e => hXn (by subst e; exact q)
            have hB7 := below_chg hB3 hC57 (fun k q => q.elim (hX3.out k) fun q => q.elim (fun e => by omega) fun e => by omega) (Nat.le_refl _)
            have hk7 : AskK ((t : Int) + 1) B M0 (fwL (tick1 t pa L)) (lastF L ev N) (j + 1) M (upd W x (some (y, (t : Int) + 1))) (upd A x (some ((t : Int) + 1))) := hK.none_ hask hq
            by_cases hk2 : m < n2
            · obtain ⟨ab, ao, rfl, hab, hac⟩ := hS2 (by omega)
              have ca : w7.cell? ⟨ab, ao + m, none⟩ = some (.bool (bs m)) := by rw [hB7.cell hab]; exact hac m hk2
              have lta : ab < w7.heap.size := Nat.lt_of_lt_of_le hab hB7.size
              have dk : decide ((m : Int) < n2) = true := decide_eq_true (by omega)
              cases hbm : bs m with
              | true =>
                rw [hbm] at ca
                replace hbm := Lib.hid hbm
                have hcl : fwL (clrP M x) x = none := by rw [clr_fwL hGj.dist x]; unfold upd; rw [if_pos rfl]
                have tok1 := True.intro
                go_upto_region 38 with (first
                  | (go_at_call 74; have tok2 := tok1; clear tok1; refine (resX24 hT7 x y hid).mono ?_; rw [res_ok f3]; rintro e w8 ⟨rfl, hT8, hC8⟩; have hqx8 := hC8.blk hqx7 (fun q => by have := hXl3 _ q; omega); have q0 : w8.cell? ⟨wi.heap.size, 0, none⟩ = some (.int .i64 x) := hqx8.cellv 0 rfl; have q1 : w8.cell? ⟨wi.heap.size, 1, none⟩ = some (.int .i64 y) := hqx8.cellv 1 rfl; have lt8 := hqx8.lt)
                  | (go_at_call 74; refine (resX24 hT8 x y hid).mono ?_; rw [res_no hcl]; rintro e w9 ⟨rfl, hT9, hC9⟩))
                have hm9 := (hm7.chg hC8 hXm).chg hC9 hXm
                have hn9 := (hn7.chg hC8 hXn).chg hC9 hXn
                have hqx9 := hC9.blk hqx8 (fun q => by have := hXl3 _ q; omega)
                have p0 : w9.cell? ⟨wi.heap.size, 0, none⟩ = some (.int .i64 x) := hqx9.cellv 0 rfl
                have lt9 := hqx9.lt
                clear s0 s1 q0 q1 ltx7 lt8
                go_upto_region 39 with (refine wpList_fdel rfl hm9 gmap_und hid (.tmp 171) (.tmp 173) rfl rfl rfl ?_; intro wx hmx hgx)
                have hCx : Chg w9 wx (fun q => q = mb) := Chg.of_grown hgx rfl
                have hCa : Chg w3 wx (fun q => X q ∨ q = mb ∨ q = nb) := ((hC57.trans hC8 fun _ _ q => .inl q).trans hC9 fun _ _ q => .inl q).trans hCx fun _ _ q => .inr (.inl q)
                go_wp2_with fail
                exact ⟨⟨j + 1, m + 1, clrP M x, _, _, by omega, by go_num, by have := hmk.out; omega, by go_num, hK.answer hask hGj.dist hq, hT9.chg hCx fun k q e => hXm (by subst e; exact q), Okr.clr hokj x, hmx, hn9.chg hCx hmz, hCa⟩, by simp [intOf]; omega⟩
              | false =>
                rw [hbm] at ca
                replace hbm := Lib.hid hbm
                go_wp2_with fail
                exact ⟨⟨j + 1, m + 1, M, _, _, by omega, by go_num, by have := hmk.out; omega, by go_num, hk7, hT7, hokj, hm7, hn7, hC57⟩, by simp [intOf]; omega⟩
            · have dk : decide ((m : Int) < n2) = false := decide_eq_false (by omega)
              go_wp2_with fail
              exact ⟨⟨j + 1, m + 1, M, _, _, by omega, by go_num, by have := hmk.out; omega, by go_num, hk7, hT7, hokj, hm7, hn7, hC57⟩, by simp [intOf]; omega⟩
        · obtain rfl : j = B.length := by omega
          obtain ⟨rfl, hA⟩ := hK.done hask
          have hids := hK.ids
          obtain rfl := hlast2 M A (hids.trans hids2) hA
          have hm8 : m ≤ 256 * (t + 1) := by have := hmk.out; omega
          obtain ⟨hwn, hwi⟩ := waits_fw hTj.good.dist
          have hsq3 : sq2 ≤ 256 * (t + 1) := by omega
          have hBj := below_chg hB3 hCj (fun k q => q.elim (hX3.out k) fun q => q.elim (fun e => by omega) fun e => by omega) (Nat.le_refl _)
          go_wp2_with (go_at_call 75; refine (waitX24 hTj (by omega) (by omega)).mono ?_; rintro e w4 ⟨v4, rfl, hr4, hT4, hC4⟩; obtain ⟨WA, WC, rfl, -, -, hs4⟩ := hr4.seen (Nat.le_refl _); have hm4 := hmj.chg hC4 hXm; have hle := hm4.len gmap_und hwn hwi; rw [List.length_map] at hle)
          exact ⟨⟨t + 1, M, N', sq2, m, by omega, rfl, by omega, by go_num, hT4, by omega, hokj, by omega, hN2', hm4, hnj.chg hC4 hXn, below_chg hBj hC4 hX3.out (Nat.le_refl _)⟩, by simp [intOf]; omega⟩
    · obtain rfl : t = 40 := by omega
      have hle := hn.len nmap_und (map_dist hT.good.dist) (last_ids (ev := ev) (show (1 : Int) < N by omega))
      rw [List.length_map] at hle
      go_wp2_with (first
        | (go_at_call 76; refine (idsX24 hT).mono ?_; rintro e w4 ⟨v4, rfl, hr4, hb4⟩; obtain ⟨IA, IC, rfl, -, -, hs4⟩ := hr4.seen (Nat.le_refl _))
        | (go_at_call 79; refine (lives24_any w4).mono ?_; rintro e w5 ⟨rfl, hb5⟩))
      go_ret
      have hx := hB.trans (hb4.mono hB.size)
      exact ⟨rfl, hx.trans (hb5.mono hx.size)⟩
end Go.Proofs.Ytejgekoinbdhjaa
