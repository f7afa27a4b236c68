import Derived.Shelf.SlIterI.Nil
import Derived.Shelf.SortM.Plain
import Derived.Shelf.SortM.SortNone
import Derived.Shelf.SlMaps.Clone
import Derived.Ground.GgzProg
import Derived.Ground.SlgmProg
import Derived.Ground.SlmcProg
import Derived.Test.YtgdeecmhhbdjgaaGreatMVipActs1
/- contracts of the library laid at this seat (its numbers are typed out). -/
namespace Go.Proofs.YtgdeecmhhbdjgaaGreat
set_option linter.unusedVariables false
open Go Go.RowKit Go.Maps Go.Sort Go.Shelf
def Tryz.keysP_ren : Go.Shelf.Ren := ⟨fun | 7 => 232 | 10 => 248 | n => n, fun | 23 => 228 | 26 => 3 | 3 => 216 | 28 => 288 | 0 => 0 | 27 => 287 | 33 => 66 | 4 => 4 | n => n, fun | n => n⟩
theorem Tryz.keysP : Go.Proofs.SlLaysZI.n7 Tryz.prog Tryz.keysP_ren := {
  mixed := by kernel_rfl
  f7 := ⟨Tryz.f232.name, by decide, Tryz.func232.trans (congrArg some (by kernel_rfl))⟩
  f10 := ⟨Tryz.f248.name, by decide, Tryz.func248.trans (congrArg some (by kernel_rfl))⟩
  t0 := Tryz.underlying0
  a0 := Tryz.isAgg0
  z0 := Tryz.sizeOf0
  v0 := Tryz.zeroValue0
  t4 := Tryz.underlying4
  a4 := Tryz.isAgg4
  z4 := Tryz.sizeOf4
  v4 := Tryz.zeroValue4
  t23 := Tryz.underlying228
  a23 := Tryz.isAgg228
  z23 := Tryz.sizeOf228
  v23 := Tryz.zeroValue228
  t26 := Tryz.underlying3
  a26 := Tryz.isAgg3
  z26 := Tryz.sizeOf3
  v26 := Tryz.zeroValue3
  t27 := Tryz.underlying287
  a27 := Tryz.isAgg287
  z27 := Tryz.sizeOf287
  v27 := Tryz.zeroValue287
  t28 := Tryz.underlying288
  a28 := Tryz.isAgg288
  z28 := Tryz.sizeOf288
  v28 := Tryz.zeroValue288
  t33 := Tryz.underlying66
  a33 := Tryz.isAgg66
  z33 := Tryz.sizeOf66
  v33 := Tryz.zeroValue66 }
def Tryz.sortedI_ren : Go.Shelf.Ren := ⟨fun | 6 => 231 | 8 => 246 | 9 => 247 | 11 => 251 | 13 => 253 | 12 => 252 | 23 => 263 | 24 => 264 | 14 => 254 | 15 => 255 | 16 => 256 | 17 => 257 | 18 => 258 | 19 => 259 | 20 => 260 | 21 => 261 | 22 => 262 | 25 => 265 | 26 => 266 | 27 => 267 | 28 => 268 | 29 => 269 | 30 => 270 | 31 => 271 | n => n, fun | 26 => 3 | 28 => 288 | 24 => 75 | 0 => 0 | 3 => 3 | 37 => 210 | 48 => 22 | 50 => 143 | 4 => 4 | 40 => 322 | 39 => 321 | 45 => 326 | 5 => 5 | 9 => 9 | 51 => 330 | 55 => 334 | 57 => 336 | 58 => 140 | 33 => 66 | n => n, fun | n => n⟩
theorem Tryz.sortedI : Go.Proofs.SlLaysZI.n6 Tryz.prog Tryz.sortedI_ren := {
  mixed := by kernel_rfl
  f6 := ⟨Tryz.f231.name, by decide, Tryz.func231.trans (congrArg some (by kernel_rfl))⟩
  f8 := ⟨Tryz.f246.name, by decide, Tryz.func246.trans (congrArg some (by kernel_rfl))⟩
  f11 := ⟨Tryz.f251.name, by decide, Tryz.func251.trans (congrArg some (by kernel_rfl))⟩
  t0 := Tryz.underlying0
  a0 := Tryz.isAgg0
  z0 := Tryz.sizeOf0
  v0 := Tryz.zeroValue0
  t24 := Tryz.underlying75
  a24 := Tryz.isAgg75
  z24 := Tryz.sizeOf75
  v24 := Tryz.zeroValue75
  t26 := Tryz.underlying3
  a26 := Tryz.isAgg3
  z26 := Tryz.sizeOf3
  v26 := Tryz.zeroValue3
  t28 := Tryz.underlying288
  a28 := Tryz.isAgg288
  z28 := Tryz.sizeOf288
  v28 := Tryz.zeroValue288
  i26 := by kernel_rfl }
def Tryz.sortI_ren : Go.Shelf.Ren := ⟨fun | 5 => 247 | 8 => 253 | 7 => 252 | 19 => 263 | 20 => 264 | 10 => 254 | 11 => 255 | 12 => 256 | 13 => 257 | 14 => 258 | 15 => 259 | 16 => 260 | 17 => 261 | 18 => 262 | 30 => 265 | 31 => 266 | 32 => 267 | 33 => 268 | 34 => 269 | 35 => 270 | 40 => 271 | n => n, fun | 23 => 75 | 25 => 3 | 3 => 3 | 32 => 210 | 22 => 75 | 0 => 0 | 44 => 22 | 46 => 143 | 4 => 4 | 36 => 322 | 35 => 321 | 41 => 326 | 5 => 5 | 9 => 9 | 53 => 330 | 57 => 334 | 63 => 336 | 64 => 140 | n => n, fun | n => n⟩
theorem Tryz.sortI : Go.Proofs.SlLaysM.n5 Tryz.prog Tryz.sortI_ren := {
  mixed := by kernel_rfl
  f5 := ⟨Tryz.f247.name, by decide, Tryz.func247.trans (congrArg some (by kernel_rfl))⟩
  f7 := ⟨Tryz.f252.name, by decide, Tryz.func252.trans (congrArg some (by kernel_rfl))⟩
  f8 := Tryz.func253.trans (congrArg some (by kernel_rfl))
  f10 := ⟨Tryz.f254.name, by decide, Tryz.func254.trans (congrArg some (by kernel_rfl))⟩
  f11 := ⟨Tryz.f255.name, by decide, Tryz.func255.trans (congrArg some (by kernel_rfl))⟩
  f12 := ⟨Tryz.f256.name, by decide, Tryz.func256.trans (congrArg some (by kernel_rfl))⟩
  f13 := ⟨Tryz.f257.name, by decide, Tryz.func257.trans (congrArg some (by kernel_rfl))⟩
  f14 := ⟨Tryz.f258.name, by decide, Tryz.func258.trans (congrArg some (by kernel_rfl))⟩
  f15 := ⟨Tryz.f259.name, by decide, Tryz.func259.trans (congrArg some (by kernel_rfl))⟩
  f16 := ⟨Tryz.f260.name, by decide, Tryz.func260.trans (congrArg some (by kernel_rfl))⟩
  f17 := ⟨Tryz.f261.name, by decide, Tryz.func261.trans (congrArg some (by kernel_rfl))⟩
  f18 := ⟨Tryz.f262.name, by decide, Tryz.func262.trans (congrArg some (by kernel_rfl))⟩
  f19 := Tryz.func263.trans (congrArg some (by kernel_rfl))
  f20 := Tryz.func264.trans (congrArg some (by kernel_rfl))
  f30 := ⟨Tryz.f265.name, by decide, Tryz.func265.trans (congrArg some (by kernel_rfl))⟩
  f31 := Tryz.func266.trans (congrArg some (by kernel_rfl))
  f32 := Tryz.func267.trans (congrArg some (by kernel_rfl))
  f33 := ⟨Tryz.f268.name, by decide, Tryz.func268.trans (congrArg some (by kernel_rfl))⟩
  f34 := ⟨Tryz.f269.name, by decide, Tryz.func269.trans (congrArg some (by kernel_rfl))⟩
  f35 := ⟨Tryz.f270.name, by decide, Tryz.func270.trans (congrArg some (by kernel_rfl))⟩
  f40 := ⟨Tryz.f271.name, by decide, Tryz.func271.trans (congrArg some (by kernel_rfl))⟩
  t0 := Tryz.underlying0
  a0 := Tryz.isAgg0
  z0 := Tryz.sizeOf0
  v0 := Tryz.zeroValue0
  t3 := Tryz.underlying3
  a3 := Tryz.isAgg3
  z3 := Tryz.sizeOf3
  v3 := Tryz.zeroValue3
  t4 := Tryz.underlying4
  a4 := Tryz.isAgg4
  z4 := Tryz.sizeOf4
  v4 := Tryz.zeroValue4
  t5 := Tryz.underlying5
  a5 := Tryz.isAgg5
  z5 := Tryz.sizeOf5
  v5 := Tryz.zeroValue5
  t9 := Tryz.underlying9
  a9 := Tryz.isAgg9
  z9 := Tryz.sizeOf9
  v9 := Tryz.zeroValue9
  t22 := Tryz.underlying75
  a22 := Tryz.isAgg75
  z22 := Tryz.sizeOf75
  v22 := Tryz.zeroValue75
  t23 := Tryz.underlying75
  a23 := Tryz.isAgg75
  z23 := Tryz.sizeOf75
  v23 := Tryz.zeroValue75
  t25 := Tryz.underlying3
  a25 := Tryz.isAgg3
  z25 := Tryz.sizeOf3
  v25 := Tryz.zeroValue3
  t32 := Tryz.underlying210
  a32 := Tryz.isAgg210
  z32 := Tryz.sizeOf210
  v32 := Tryz.zeroValue210
  t35 := Tryz.underlying321
  a35 := Tryz.isAgg321
  z35 := Tryz.sizeOf321
  v35 := Tryz.zeroValue321
  t36 := Tryz.underlying322
  a36 := Tryz.isAgg322
  z36 := Tryz.sizeOf322
  v36 := Tryz.zeroValue322
  t41 := Tryz.underlying326
  a41 := Tryz.isAgg326
  z41 := Tryz.sizeOf326
  v41 := Tryz.zeroValue326
  t44 := Tryz.underlying22
  a44 := Tryz.isAgg22
  z44 := Tryz.sizeOf22
  v44 := Tryz.zeroValue22
  t46 := Tryz.underlying143
  a46 := Tryz.isAgg143
  z46 := Tryz.sizeOf143
  v46 := Tryz.zeroValue143
  t53 := Tryz.underlying330
  a53 := Tryz.isAgg330
  z53 := Tryz.sizeOf330
  v53 := Tryz.zeroValue330
  t57 := Tryz.underlying334
  a57 := Tryz.isAgg334
  z57 := Tryz.sizeOf334
  v57 := Tryz.zeroValue334
  t63 := Tryz.underlying336
  a63 := Tryz.isAgg336
  z63 := Tryz.sizeOf336
  v63 := Tryz.zeroValue336
  t64 := Tryz.underlying140
  a64 := Tryz.isAgg140
  z64 := Tryz.sizeOf140
  v64 := Tryz.zeroValue140 }
def Tryz.cloneP_ren : Go.Shelf.Ren := ⟨fun | 5 => 187 | 7 => 233 | n => n, fun | 23 => 228 | 25 => 3 | 3 => 216 | 4 => 4 | 20 => 20 | n => n, fun | n => n⟩
theorem Tryz.cloneP : Go.Proofs.SlLaysW.n5 Tryz.prog Tryz.cloneP_ren := {
  mixed := by kernel_rfl
  f5 := ⟨Tryz.f187.name, by decide, Tryz.func187.trans (congrArg some (by kernel_rfl))⟩
  f7 := Tryz.func233.trans (congrArg some (by kernel_rfl))
  t4 := Tryz.underlying4
  a4 := Tryz.isAgg4
  z4 := Tryz.sizeOf4
  v4 := Tryz.zeroValue4
  t20 := Tryz.underlying20
  a20 := Tryz.isAgg20
  z20 := Tryz.sizeOf20
  v20 := Tryz.zeroValue20
  t23 := Tryz.underlying228
  a23 := Tryz.isAgg228
  z23 := Tryz.sizeOf228
  v23 := Tryz.zeroValue228 }
end Go.Proofs.YtgdeecmhhbdjgaaGreat

/- slices.Sorted of maps.Keys over a map of known entries; maps.Clone of it. -/
namespace Go.Proofs.YtgdeecmhhbdjgaaGreat
set_option linter.unusedVariables false
open Go Go.RowKit Go.Maps Go.Sort Go.Shelf Go.WideElems

def anyR (_ : Value) : Option (DataW Unit × List MemPlace) := some (.nil, [])
theorem ent_owns {w : World} {b : Nat} {l : List (Value × Value)} {ids : List Int} (h : Ent Tryz.prog 3 w b l) (hids : l.map Prod.fst = ids.map (Value.int .i64)) (hn : l.length ≤ 1000000) :
    ∃ D : DataW Unit, w.ownsMap Tryz.prog 3 anyR b l.length D ∧ Maps.size D = l.length ∧ (intKeys D).Perm ids := by
  obtain ⟨es, clock, hb, hs, hk, rfl⟩ := h
  have hlen : es.size ≤ 1000000 := by simpa using hn
  have hF : Fit Tryz.prog 3 anyR es clock := ⟨by unfold maxLen; omega, hs, fun x hx => by
    obtain ⟨kl, hkl⟩ := hk x hx
    exact ⟨(kl, .nil), by simp [WideElems.rd, hkl, anyR]⟩⟩
  refine ⟨_, ⟨es, clock, hb, hF, by simp, rfl⟩, ?_, ?_⟩
  · rw [size_eq, (Go.WideShapes.sorted_perm _).length_eq]; simp
  · have h1 := (Go.WideShapes.sorted_perm (es.toList.map (rg Tryz.prog 3 anyR))).map fun p : Lit × DataW Unit => Go.intOf p.1
    refine h1.trans ?_
    have e : (es.toList.map (rg Tryz.prog 3 anyR)).map (fun p : Lit × DataW Unit => Go.intOf p.1) = ids := by
      have inj : ∀ a c : List Int, a.map (Value.int .i64) = c.map (Value.int .i64) → a = c := by
        intro a
        induction a with
        | nil => intro c h; cases c with
          | nil => rfl
          | cons _ _ => simp at h
        | cons x a ih => intro c h; cases c with
          | nil => simp at h
          | cons y c => simp at h; rw [h.1, ih c (by simpa using h.2)]
      refine inj _ _ ?_
      rw [← hids, List.map_map, List.map_map, List.map_map]
      refine List.map_congr_left fun x hx => ?_
      obtain ⟨kl, hkl⟩ := hk x hx
      obtain ⟨z, e1, e2, _⟩ := Maps.keyOf_i64 Tryz.underlying3 hkl
      have e3 : (WideElems.rg Tryz.prog 3 anyR x).1 = kl := by simp [WideElems.rg, WideElems.rd, hkl, anyR]
      show Value.int .i64 (Go.intOf (WideElems.rg Tryz.prog 3 anyR x).1) = x.key
      rw [e3, e2, e1]
      rfl
    rw [e]
theorem keysP_any (w : World) (b : Nat) : Calls Tryz.prog 232 #[.map (some b)] w fun e w' => e = .returned (.func (.func 248) #[] #[.pointer (some ⟨w.heap.size, 0, none⟩)]) ∧ w' = w.alloc (.cells #[.map (some b)] 228) :=
  callsIn_wide.1 (AnyZI.keys_in Tryz.keysP Fence.wide 5 trivial rfl (some b) w)
theorem sortsP (m : Nat) : AnyZI.SortsIn Tryz.prog Tryz.sortedI_ren Fence.wide m :=
  ⟨fun blk off cap ss W hH hblk hsz => callsIn_wide.2 (AnyM.slices_Sort_int Tryz.sortI blk off cap ss W hH hblk hsz),
   fun p cap W => callsIn_wide.2 (AnyM.slices_Sort_int_none Tryz.sortI p cap W)⟩
set_option maxHeartbeats 1000000 in
theorem sortedP_any (w : World) (g b : Nat) (l : List (Value × Value)) (ids : List Int) (hgl : g < w.heap.size) (hg : w.cell? ⟨g, 0, none⟩ = some (.map (some b))) (h : Ent Tryz.prog 3 w b l) (hids : l.map Prod.fst = ids.map (Value.int .i64)) (hn : l.length ≤ 1000000) :
    Calls Tryz.prog 231 #[.func (.func 248) #[] #[.pointer (some ⟨g, 0, none⟩)]] w fun e w' => ∃ v, e = .returned v ∧ w'.ownsRow w.heap.size 3 1 v ids.length ((ids.mergeSort leI).map (Value.int .i64)) ∧ Below w.heap.size w w' := by
  obtain ⟨D, hown, hsz, hp⟩ := ent_owns h hids hn
  have hseq : SeqGives Fence.wide 2 Tryz.prog 248 #[.pointer (some ⟨g, 0, none⟩)] encZ (fun ss => ss.Perm (intKeys D)) (Maps.size D) w :=
    AnyZI.keys_gives (ρ := Tryz.keysP_ren) { Tryz.keysP with } Fence.wide _ trivial rfl (by omega) g b l.length D w hgl hg hown
  have cS := AnyZI.sorted_in Tryz.sortedI Fence.wide 5 trivial trivial trivial trivial rfl (by omega) (sortsP _) (enters_of Tryz.func247 (by kernel_rfl) rfl) 248 #[.pointer (some ⟨g, 0, none⟩)] trivial (enters_of Tryz.func248 (by kernel_rfl) rfl) _ _ (by rw [hsz]; unfold maxLen; omega) (by rw [hsz]; omega) _ hseq
  refine (callsIn_wide.1 cS).mono ?_
  rintro e w' ⟨v, ss, rfl, hS, hrow, hnil, hb⟩
  have hss : ss.Perm ids := hS.trans hp
  rw [mergeSort_of_perm_i hss, hss.length_eq] at hrow
  exact ⟨v, rfl, hrow, hb⟩
theorem cloneP_any {K : TypeId} (w : World) (b : Nat) (l : List (Value × Value)) (h : Ent Tryz.prog K w b l) : Calls Tryz.prog 187 #[.map (some b)] w fun e w' => e = .returned (.map (some w.heap.size)) ∧ Ent Tryz.prog K w' w.heap.size l ∧ Below w.heap.size w w' := by
  obtain ⟨es, clock, hb, hs, hk, rfl⟩ := h
  refine (AnyW.maps_Clone Tryz.cloneP b es clock w hb).mono ?_
  rintro e w' ⟨rfl, rfl⟩
  exact ⟨rfl, ⟨es, clock, World.alloc_heap_new w _, hs, hk, rfl⟩, (Below.refl _ _).alloc (Nat.le_refl _) _⟩
end Go.Proofs.YtgdeecmhhbdjgaaGreat
