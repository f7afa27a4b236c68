/- ip: the document's Forward and Rewrite. -/
import Derived.Test.YtlkammmadchjnaaIpR
import Derived.Test.YtlkammmadchjnaaSto2
namespace Go.Proofs.Ytlkammmadchjnaa
set_option linter.unusedVariables false
open Go.RowKit

theorem optL_len (l : List UInt8) : (optL l).length ≤ 40 := by
  have := szK_lo l
  unfold optL hdL; split
  · rw [List.length_drop, List.length_take]; omega
  · exact Nat.zero_le _
theorem payL_len (l : List UInt8) : (payL l).length ≤ 9000 := by
  unfold payL; split
  · rename_i he
    have := errV_ok he
    rw [List.length_take]; omega
  · exact Nat.zero_le _
theorem fS_bd (l : List UInt8) : 0 ≤ fS l ∧ fS l ≤ 4294967295 := by
  unfold fS pS; split
  · exact ⟨numV_lo _ _, numV_4 _ _ (by omega)⟩
  · omega
theorem fD_bd (l : List UInt8) : 0 ≤ fD l ∧ fD l ≤ 4294967295 := by
  unfold fD pD; split
  · exact ⟨numV_lo _ _, numV_4 _ _ (by omega)⟩
  · omega
theorem fL_bd (l : List UInt8) : 0 ≤ fL l ∧ fL l ≤ 4294967295 := by
  unfold fL pL; split
  · exact ⟨numV_lo _ _, numV_4 _ _ (by omega)⟩
  · omega
set_option maxRecDepth 100000 in
set_option maxHeartbeats 4000000 in
theorem again_any (w : World) (A : Option Addr) (n c : Nat) (l : List UInt8) (h : Byt w w.heap.size A n l) (hc : n ≤ c) (hc2 : c ≤ maxLen) (hn : n ≤ 10000000)
    (t i f g u p s d : Int) (X : Option Addr) (m k : Nat) (o : List UInt8) (hO : Byt w w.heap.size X m o) (hm : m ≤ 300) (s0 : 0 ≤ s) (s1 : s ≤ 4294967295) (d0 : 0 ≤ d) (d1 : d ≤ 4294967295) :
    Calls Try.prog 44 #[.slice A n c, .agg #[.int .i64 t, .int .i64 i, .int .i64 f, .int .i64 g, .int .i64 u, .int .i64 p, .int .u32 s, .int .u32 d, .slice X m k]] w fun e w' =>
      ∃ v, e = .returned v ∧ OwnB w' w.heap.size v (buildL t i f g u p s d o (payL l)).length (buildL t i f g u p s d o (payL l)) ∧ Below w.heap.size w w' := by
  have hq := Blk.new w 29 (hdrCs t i f g u p s d X m k)
  have hB := (Below.refl w.heap.size w).alloc (Nat.le_refl _) (.cells (hdrCs t i f g u p s d X m k) 29)
  unfold hdrCs at hq hB
  go_enter Try.func44, Try.ntmps44
  go_wp2_with fail
  refine (refParse_any _ A n c l ((h.below hB).more hB.size) hc hc2 hn).mono ?_
  rintro e w1 ⟨vo, vp, rfl, owno, ownp, hb1⟩
  unfold parsed
  replace hB := hB.trans (hb1.mono hB.size)
  replace hq := hq.below hb1 hq.lt
  obtain ⟨Ap, cp, rfl, hcp, hbp, _⟩ := ownp.any
  obtain ⟨Ao, co, rfl, hco, hbo, _⟩ := owno.any
  clear owno ownp hb1
  have hpl := payL_len l
  have hi : (Try.prog.info? 29).map (·.size) = some 9 := by kernel_rfl
  go_wp2_with (refine wpList_load_blk rfl (hq.alloc _) 29 (.tmp 3) rfl rfl Try.underlying29 rfl hi ?_)
  have hBa := hB.alloc hB.size (.cells #[.int .i64 (fT l), .int .i64 (fI l), .int .i64 (fF l), .int .i64 (fG l), .int .i64 (fL l), .int .i64 (fP l), .int .u32 (fS l), .int .u32 (fD l), .slice Ao (optL l).length co] 29)
  have hOa := (hO.below hBa).more hBa.size
  have hza := (Below.refl w1.heap.size w1).alloc (Nat.le_refl _) (.cells #[.int .i64 (fT l), .int .i64 (fI l), .int .i64 (fF l), .int .i64 (fG l), .int .i64 (fL l), .int .i64 (fP l), .int .u32 (fS l), .int .u32 (fD l), .slice Ao (optL l).length co] 29)
  have hpa := (hbp.below hza).more hza.size
  refine (refBuild_any t i f g u p s d X m k o Ap _ cp (payL l) _ hm (by omega) hOa hpa s0 s1 d0 d1).mono ?_
  rintro e w2 ⟨v, rfl, own, hb2⟩
  go_wp2_with fail
  go_ret
  exact ⟨v, rfl, own.less hBa.size, hBa.trans (hb2.mono hBa.size)⟩

set_option maxRecDepth 100000 in
set_option maxHeartbeats 4000000 in
theorem refForward_any (w : World) (A : Option Addr) (n c : Nat) (l : List UInt8) (h : Byt w w.heap.size A n l) (hc : n ≤ c) (hc2 : c ≤ maxLen) (hn : n ≤ 10000000) :
    Calls Try.prog 18 #[.slice A n c] w fun e w' => ∃ v, e = .returned (.tuple #[v, .int .i64 (fwdE l)]) ∧ OwnB w' w.heap.size v (fwdL l).length (fwdL l) ∧ Below w.heap.size w w' := by
  have hi : (Try.prog.info? 29).map (·.size) = some 9 := by kernel_rfl
  have fs := fS_bd l
  have fd := fD_bd l
  have fl := fL_bd l
  have ol := optL_len l
  go_enter Try.func18, Try.ntmps18
  go_wp2_with fail
  refine (refParse_any _ A n c l h hc hc2 hn).mono ?_
  rintro e w1 ⟨vo, vp, rfl, owno, ownp, hB⟩
  unfold parsed
  obtain ⟨Ap, cp, rfl, hcp, hbp, _⟩ := ownp.any
  obtain ⟨Ao, co, rfl, hco, hbo, _⟩ := owno.any
  have hq := Blk.new w1 29 #[.int .i64 (fT l), .int .i64 (fI l), .int .i64 (fF l), .int .i64 (fG l), .int .i64 (fL l), .int .i64 (fP l), .int .u32 (fS l), .int .u32 (fD l), .slice Ao (optL l).length co]
  have hBa := hB.alloc hB.size (.cells #[.int .i64 (fT l), .int .i64 (fI l), .int .i64 (fF l), .int .i64 (fG l), .int .i64 (fL l), .int .i64 (fP l), .int .u32 (fS l), .int .u32 (fD l), .slice Ao (optL l).length co] 29)
  have hz1 := hB.size
  have hoa := (hbo.alloc (Nat.le_refl _) (.cells #[.int .i64 (fT l), .int .i64 (fI l), .int .i64 (fF l), .int .i64 (fG l), .int .i64 (fL l), .int .i64 (fP l), .int .u32 (fS l), .int .u32 (fD l), .slice Ao (optL l).length co] 29))
  clear ownp owno
  by_cases he : errV l = 0
  rotate_left
  · have hb : (errV l != 0) = true := by simpa using he
    have e1 : fwdE l = errV l := by unfold fwdE; rw [if_pos (by simpa using he)]
    have e2 : [] = fwdL l := by unfold fwdL; rw [if_pos (by simpa using he)]
    replace e1 := Lib.hid e1
    replace e2 := Lib.hid e2
    replace he := Lib.hid he
    go_wp2_with fail
    go_ret2
    exact ⟨_, tuple2 e1.out.symm, (OwnB.nil _ _).fit e2.out, hBa⟩
  have h8 := fL_by he
  by_cases hlow : byAt l 8 ≤ 1
  · have e1 : fwdE l = 9 := by unfold fwdE; rw [if_neg (by simpa using he), if_pos hlow]
    have e2 : [] = fwdL l := by unfold fwdL; rw [if_neg (by simpa using he), if_pos hlow]
    have h2 : fL l < 2 := by omega
    replace e1 := Lib.hid e1
    replace e2 := Lib.hid e2
    replace h8 := Lib.hid h8
    go_wp2_with fail
    go_ret2
    exact ⟨_, tuple2 e1.out.symm, (OwnB.nil _ _).fit e2.out, hBa⟩
  have e1 : fwdE l = 0 := by unfold fwdE; rw [if_neg (by simpa using he), if_neg hlow]
  have e2 : buildL (fT l) (fI l) (fF l) (fG l) (fL l - 1) (fP l) (fS l) (fD l) (optL l) (payL l) = fwdL l := by unfold fwdL; rw [if_neg (by simpa using he), if_neg hlow]
  have h2 : 2 ≤ fL l := by omega
  replace e1 := Lib.hid e1
  replace e2 := Lib.hid e2
  replace h8 := Lib.hid h8
  go_wp2_with fail
  have hBb := hB.alloc hB.size (.cells #[.int .i64 (fT l), .int .i64 (fI l), .int .i64 (fF l), .int .i64 (fG l), .int .i64 (fL l - 1), .int .i64 (fP l), .int .u32 (fS l), .int .u32 (fD l), .slice Ao (optL l).length co] 29)
  have hza := (Below.refl w1.heap.size w1).alloc (Nat.le_refl _) (.cells #[.int .i64 (fT l), .int .i64 (fI l), .int .i64 (fF l), .int .i64 (fG l), .int .i64 (fL l - 1), .int .i64 (fP l), .int .u32 (fS l), .int .u32 (fD l), .slice Ao (optL l).length co] 29)
  have hob := (hbo.below hza).more hza.size
  refine (again_any _ A n c l ((h.below hBb).more hBb.size) hc hc2 hn (fT l) (fI l) (fF l) (fG l) (fL l - 1) (fP l) (fS l) (fD l) Ao _ co (optL l) hob (by omega) fs.1 fs.2 fd.1 fd.2).mono ?_
  rintro e w2 ⟨v, rfl, own, hb2⟩
  go_wp2_with fail
  go_ret2
  exact ⟨v, tuple2 e1.out.symm, (own.less hBb.size).fit e2.out, hBb.trans (hb2.mono hBb.size)⟩
set_option maxRecDepth 100000 in
set_option maxHeartbeats 4000000 in
theorem refRewrite_any (w : World) (A : Option Addr) (n c : Nat) (l : List UInt8) (h : Byt w w.heap.size A n l) (hc : n ≤ c) (hc2 : c ≤ maxLen) (hn : n ≤ 10000000) (dst : Int) (d0 : 0 ≤ dst) (d1 : dst ≤ 4294967295) :
    Calls Try.prog 20 #[.slice A n c, .int .u32 dst] w fun e w' => ∃ v, e = .returned (.tuple #[v, .int .i64 (errV l)]) ∧ OwnB w' w.heap.size v (rewL l dst).length (rewL l dst) ∧ Below w.heap.size w w' := by
  have hi : (Try.prog.info? 29).map (·.size) = some 9 := by kernel_rfl
  have fs := fS_bd l
  have fd := fD_bd l
  have fl := fL_bd l
  have ol := optL_len l
  go_enter Try.func20, Try.ntmps20
  go_wp2_with fail
  refine (refParse_any _ A n c l h hc hc2 hn).mono ?_
  rintro e w1 ⟨vo, vp, rfl, owno, ownp, hB⟩
  unfold parsed
  obtain ⟨Ap, cp, rfl, hcp, hbp, _⟩ := ownp.any
  obtain ⟨Ao, co, rfl, hco, hbo, _⟩ := owno.any
  have hq := Blk.new w1 29 #[.int .i64 (fT l), .int .i64 (fI l), .int .i64 (fF l), .int .i64 (fG l), .int .i64 (fL l), .int .i64 (fP l), .int .u32 (fS l), .int .u32 (fD l), .slice Ao (optL l).length co]
  have hBa := hB.alloc hB.size (.cells #[.int .i64 (fT l), .int .i64 (fI l), .int .i64 (fF l), .int .i64 (fG l), .int .i64 (fL l), .int .i64 (fP l), .int .u32 (fS l), .int .u32 (fD l), .slice Ao (optL l).length co] 29)
  have hz1 := hB.size
  have hoa := (hbo.alloc (Nat.le_refl _) (.cells #[.int .i64 (fT l), .int .i64 (fI l), .int .i64 (fF l), .int .i64 (fG l), .int .i64 (fL l), .int .i64 (fP l), .int .u32 (fS l), .int .u32 (fD l), .slice Ao (optL l).length co] 29))
  clear ownp owno
  by_cases he : errV l = 0
  rotate_left
  · have hb : (errV l != 0) = true := by simpa using he
    have e2 : [] = rewL l dst := by unfold rewL; rw [if_pos (by simpa using he)]
    replace e2 := Lib.hid e2
    replace he := Lib.hid he
    go_wp2_with fail
    go_ret2
    exact ⟨_, tuple2 rfl, (OwnB.nil _ _).fit e2.out, hBa⟩

  have e2 : buildL (fT l) (fI l) (fF l) (fG l) (fL l) (fP l) (fS l) dst (optL l) (payL l) = rewL l dst := by unfold rewL; rw [if_neg (by simpa using he)]
  replace e2 := Lib.hid e2
  go_wp2_with fail
  have hBb := hB.alloc hB.size (.cells #[.int .i64 (fT l), .int .i64 (fI l), .int .i64 (fF l), .int .i64 (fG l), .int .i64 (fL l), .int .i64 (fP l), .int .u32 (fS l), .int .u32 (dst), .slice Ao (optL l).length co] 29)
  have hza := (Below.refl w1.heap.size w1).alloc (Nat.le_refl _) (.cells #[.int .i64 (fT l), .int .i64 (fI l), .int .i64 (fF l), .int .i64 (fG l), .int .i64 (fL l), .int .i64 (fP l), .int .u32 (fS l), .int .u32 (dst), .slice Ao (optL l).length co] 29)
  have hob := (hbo.below hza).more hza.size
  refine (again_any _ A n c l ((h.below hBb).more hBb.size) hc hc2 hn (fT l) (fI l) (fF l) (fG l) (fL l) (fP l) (fS l) dst Ao _ co (optL l) hob (by omega) fs.1 fs.2 d0 d1).mono ?_
  rintro e w2 ⟨v, rfl, own, hb2⟩
  go_wp2_with fail
  go_ret2
  exact ⟨v, tuple2 he.symm, (own.less hBb.size).fit e2.out, hBb.trans (hb2.mono hBb.size)⟩
end Go.Proofs.Ytlkammmadchjnaa
