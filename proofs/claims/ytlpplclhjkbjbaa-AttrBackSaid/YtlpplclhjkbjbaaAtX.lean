/- attr: AttrBack, the walk, joined. -/
import Derived.Test.YtlpplclhjkbjbaaAtV
import Derived.Test.YtlpplclhjkbjbaaAtW
namespace Go.Proofs.Ytlpplclhjkbjbaa
set_option linter.unusedVariables false
open Go.RowKit

theorem back7_walk (o : Int) (A : Option Addr) (n c : Nat) (zs : List Int) (h m : Int) (b : Bool) (k : Int) (w : World) (w1 : (Lit.int .i64 o).wf = true) (w2 : n ≤ c) (w3 : c ≤ maxLen) (hN : Nums .i64 w w.heap.size A n zs) (hh : (Lit.int .u32 h).wf = true) (w4 : (Lit.int .i64 m).wf = true) (hk : (Lit.int .u64 k).wf = true) :
    Calls Try.prog 5 #[.agg #[.int .i64 o, .slice A n c, .int .u32 h, .int .i64 m, .bool b], .int .u64 k] w fun e w' => e = .returned (.bool true) ∧ Below w.heap.size w w' := by
  have h0 : 0 ≤ h := (bounds_u32 hh).1
  have h1 : h ≤ 4294967295 := by have := (bounds_u32 hh).2; omega
  by_cases hg : goodA o zs h m b = true
  · have hlen := attrsB_len hg
    have hlt : (k % ((attrsB o zs h m b).length : Int)).toNat < (attrsB o zs h m b).length := by
      have := Int.emod_lt_of_pos k (show (0 : Int) < (attrsB o zs h m b).length by omega)
      have := Int.emod_nonneg k (show ((attrsB o zs h m b).length : Int) ≠ 0 by omega)
      omega
    rcases parseA_cut hg h0 h1 _ hlt with hx | hx
    · exact back7_err o A n c zs h m b k w w1 w2 w3 hN hh w4 hk fun _ => hx
    · exact back7_ok o A n c zs h m b k w w1 w2 w3 hN hh w4 hk fun _ => hx
  · exact back7_err o A n c zs h m b k w w1 w2 w3 hN hh w4 hk fun h => absurd h hg
end Go.Proofs.Ytlpplclhjkbjbaa
