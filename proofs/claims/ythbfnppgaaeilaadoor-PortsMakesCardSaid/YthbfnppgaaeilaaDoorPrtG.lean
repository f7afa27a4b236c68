/- ports: what the packets that are made say: plain. -/
import Derived.Test.YthbfnppgaaeilaaDoorPrtF
import Derived.Test.YthbfnppgaaeilaaDoorTunC
namespace Go.Proofs.YthbfnppgaaeilaaDoor
set_option linter.unusedVariables false
open Go.RowKit

theorem byAt_app_lt (a b : List UInt8) (j : Nat) (h : j < a.length) : byAt (a ++ b) j = byAt a j := by
  unfold byAt; rw [List.getElem?_append_left h]
theorem byAt_setAt (l : List UInt8) (p : Nat) (x : List UInt8) (j : Nat) (h : j < p) (hp : p ≤ l.length) : byAt (setAt l p x) j = byAt l j := by
  unfold setAt
  rw [byAt_app_lt _ _ _ (by rw [List.length_take]; omega), byAt_take _ _ _ h]
theorem byAt_cons0 (a : UInt8) (l : List UInt8) : byAt (a :: l) 0 = (a.toNat : Int) := rfl
theorem byAt_consS (a : UInt8) (l : List UInt8) (j : Nat) : byAt (a :: l) (j + 1) = byAt l j := by unfold byAt; rw [List.getElem?_cons_succ]
theorem be2 (x : Int) : be x 2 = [byOf (x / 256), byOf x] := by simp [be]
def restL (fl : Int) : List UInt8 := [0, 0, 0, 0, 0, 0, 0, 0] ++ ([80, byOf fl, 255, 255] ++ [0, 0, 0, 0])
def tcpB (sp dp fl : Int) (pl : List UInt8) : List UInt8 := bothL sp dp ++ (restL fl ++ pl)
theorem tcpB_len (sp dp fl : Int) (pl : List UInt8) : (tcpB sp dp fl pl).length = 20 + pl.length := by simp [tcpB, bothL, restL, be_len]; omega
def tcpL (s d sp dp fl : Int) (pl : List UInt8) : List UInt8 := pktL 6 s d sp dp 16 (tcpB sp dp fl pl)
theorem portB_iff (x : Int) : portB x = true ↔ 0 ≤ x ∧ x ≤ 65535 := by unfold portB; simp
theorem goodF_ports {p sp dp : Int} (h : goodF p sp dp = true) : (p = 6 ∨ p = 17) ∧ (0 ≤ sp ∧ sp ≤ 65535) ∧ (0 ≤ dp ∧ dp ≤ 65535) := by
  unfold goodF at h
  simp only [Bool.and_eq_true, Bool.or_eq_true, beq_iff_eq, portB_iff] at h
  exact ⟨h.1.1, h.1.2, h.2⟩
theorem goodF_mk {p sp dp : Int} (hp : p = 6 ∨ p = 17) (h1 : 0 ≤ sp ∧ sp ≤ 65535) (h2 : 0 ≤ dp ∧ dp ≤ 65535) : goodF p sp dp = true := by
  unfold goodF
  simp only [Bool.and_eq_true, Bool.or_eq_true, beq_iff_eq, portB_iff]
  exact ⟨⟨hp, h1⟩, h2⟩
theorem tcp_len {s d sp dp fl : Int} {pl : List UInt8} (hg : goodF 6 sp dp = true) (hm : pl.length ≤ 8960) : (tcpL s d sp dp fl pl).length = 40 + pl.length ∧ tcpL s d sp dp fl pl = buildL 0 0 0 0 64 6 s d [] (setAt (tcpB sp dp fl pl) 16 (be (sentV 6 s d (tcpB sp dp fl pl)) 2)) := by
  have hl := tcpB_len sp dp fl pl
  have e : tcpL s d sp dp fl pl = buildL 0 0 0 0 64 6 s d [] (setAt (tcpB sp dp fl pl) 16 (be (sentV 6 s d (tcpB sp dp fl pl)) 2)) := by
    unfold tcpL pktL
    rw [if_pos ⟨hg, by omega⟩]
  refine ⟨?_, e⟩
  rw [e, buildL_len (by decide) (by rw [setAt_len _ _ _ (by rw [be_len]; omega)]; simp; omega), setAt_len _ _ _ (by rw [be_len]; omega)]
  simp; omega
theorem tcp_built {s d sp dp fl : Int} {pl : List UInt8} (hg : goodF 6 sp dp = true) (hm : pl.length ≤ 8960) (s0 : 0 ≤ s) (s1 : s ≤ 4294967295) (d0 : 0 ≤ d) (d1 : d ≤ 4294967295) :
    Built 0 0 0 0 64 6 s d [] (setAt (tcpB sp dp fl pl) 16 (be (sentV 6 s d (tcpB sp dp fl pl)) 2)) (tcpL s d sp dp fl pl) := by
  have hl := tcpB_len sp dp fl pl
  rw [(tcp_len hg hm).2]
  exact parse_build0 0 0 0 0 64 6 s d [] _ (by decide) (by rw [setAt_len _ _ _ (by rw [be_len]; omega)]; simp; omega) s0 s1 d0 d1
/-- what a packet's flow is. -/
structure Seg (l : List UInt8) (p s d sp dp f : Int) (m : Nat) : Prop where
  e : sgE l = 0
  p_ : fP l = p
  s_ : fS l = s
  d_ : fD l = d
  a_ : pqA (fP l) (payL l) = sp
  b_ : pqB (fP l) (payL l) = dp
  f_ : pqF (fP l) (payL l) = f
  m_ : (payL l).length = m
theorem seg_of {p s d : Int} {pl l : List UInt8} (b : Built 0 0 0 0 64 p s d [] pl l) (h : hpE p pl = 0) : Seg l p s d (pt16 pl 0) (pt16 pl 2) (hpF p pl) pl.length := by
  refine ⟨?_, b.p_, b.s_, b.d_, ?_, ?_, ?_, by rw [b.pl_]⟩
  · unfold sgE
    rw [b.err, b.g_, b.f_, b.p_, b.pl_, h]
    decide
  · rw [b.p_, b.pl_]; exact if_pos h
  · rw [b.p_, b.pl_]; exact if_pos h
  · rw [b.p_, b.pl_]; exact if_pos h
theorem seg_udp {s d sp dp : Int} {pl : List UInt8} (hg : goodF 17 sp dp = true) (hm : pl.length ≤ 8972) (s0 : 0 ≤ s) (s1 : s ≤ 4294967295) (d0 : 0 ≤ d) (d1 : d ≤ 4294967295) :
    Seg (udpL s d sp dp pl) 17 s d sp dp 0 (8 + pl.length) := by
  obtain ⟨_, h1, h2⟩ := goodF_ports hg
  have hl := udpB_len sp dp pl
  have b := udp_built (s := s) (d := d) hg hm s0 s1 d0 d1
  generalize hX : be (sentV 17 s d (udpB sp dp pl)) 2 = X at b
  have hXl : X.length = 2 := by rw [← hX, be_len]
  clear hX
  have hsl := setAt_len (udpB sp dp pl) 6 X (by omega)
  have hb : ∀ j, j < 6 → byAt (setAt (udpB sp dp pl) 6 X) j = byAt (udpB sp dp pl) j := fun j hj => byAt_setAt _ _ _ _ hj (by omega)
  have e0 : pt16 (setAt (udpB sp dp pl) 6 X) 0 = sp := by
    unfold pt16; rw [hb 0 (by omega), hb (0 + 1) (by omega)]
    simp only [udpB, bothL, be2, List.cons_append, List.nil_append, byAt_cons0, byAt_consS, byOf_val]
    omega
  have e2 : pt16 (setAt (udpB sp dp pl) 6 X) 2 = dp := by
    unfold pt16; rw [hb 2 (by omega), hb (2 + 1) (by omega)]
    simp only [udpB, bothL, be2, List.cons_append, List.nil_append, byAt_cons0, byAt_consS, byOf_val]
    omega
  have e4 : pt16 (setAt (udpB sp dp pl) 6 X) 4 = 8 + pl.length := by
    unfold pt16; rw [hb 4 (by omega), hb (4 + 1) (by omega)]
    simp only [udpB, bothL, be2, List.cons_append, List.nil_append, byAt_cons0, byAt_consS, byOf_val]
    omega
  have hE : hpE 17 (setAt (udpB sp dp pl) 6 X) = 0 := by
    unfold hpE
    rw [if_neg (by decide), if_pos rfl, hsl, hl, if_neg (by omega), e4]
    unfold inE
    rw [if_neg (by omega)]
  have := seg_of b hE
  rw [e0, e2, hsl, hl] at this
  exact this
theorem seg_tcp {s d sp dp fl : Int} {pl : List UInt8} (hg : goodF 6 sp dp = true) (hm : pl.length ≤ 8960) (s0 : 0 ≤ s) (s1 : s ≤ 4294967295) (d0 : 0 ≤ d) (d1 : d ≤ 4294967295) :
    Seg (tcpL s d sp dp fl pl) 6 s d sp dp (fl % 256) (20 + pl.length) := by
  obtain ⟨_, h1, h2⟩ := goodF_ports hg
  have hl := tcpB_len sp dp fl pl
  have b := tcp_built (s := s) (d := d) (fl := fl) hg hm s0 s1 d0 d1
  generalize hX : be (sentV 6 s d (tcpB sp dp fl pl)) 2 = X at b
  have hXl : X.length = 2 := by rw [← hX, be_len]
  clear hX
  have hsl := setAt_len (tcpB sp dp fl pl) 16 X (by omega)
  have hb : ∀ j, j < 16 → byAt (setAt (tcpB sp dp fl pl) 16 X) j = byAt (tcpB sp dp fl pl) j := fun j hj => byAt_setAt _ _ _ _ hj (by omega)
  have e0 : pt16 (setAt (tcpB sp dp fl pl) 16 X) 0 = sp := by
    unfold pt16; rw [hb 0 (by omega), hb (0 + 1) (by omega)]
    simp only [tcpB, restL, bothL, be2, List.cons_append, List.nil_append, byAt_cons0, byAt_consS, byOf_val]
    omega
  have e2 : pt16 (setAt (tcpB sp dp fl pl) 16 X) 2 = dp := by
    unfold pt16; rw [hb 2 (by omega), hb (2 + 1) (by omega)]
    simp only [tcpB, restL, bothL, be2, List.cons_append, List.nil_append, byAt_cons0, byAt_consS, byOf_val]
    omega
  have e12 : byAt (setAt (tcpB sp dp fl pl) 16 X) 12 = 80 := by
    rw [hb 12 (by omega)]
    simp only [tcpB, restL, bothL, be2, List.cons_append, List.nil_append, byAt_cons0, byAt_consS]
    decide
  have e13 : byAt (setAt (tcpB sp dp fl pl) 16 X) 13 = fl % 256 := by
    rw [hb 13 (by omega)]
    simp only [tcpB, restL, bothL, be2, List.cons_append, List.nil_append, byAt_cons0, byAt_consS, byOf_val]
  have hE : hpE 6 (setAt (tcpB sp dp fl pl) 16 X) = 0 := by
    unfold hpE tcW
    rw [if_pos rfl, hsl, hl, if_neg (by omega), e12]
    unfold inE
    rw [if_neg (by omega)]
  have := seg_of b hE
  have eF : hpF 6 (setAt (tcpB sp dp fl pl) 16 X) = fl % 256 := by unfold hpF; rw [if_pos rfl, e13]
  rw [e0, e2, eF, hsl, hl] at this
  exact this
end Go.Proofs.YthbfnppgaaeilaaDoor
