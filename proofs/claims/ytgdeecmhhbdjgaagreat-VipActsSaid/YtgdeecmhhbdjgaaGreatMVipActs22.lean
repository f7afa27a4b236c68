import Derived.Test.YtgdeecmhhbdjgaaGreatMVipActs3
import Derived.Laws.StructEq
/- flows: flows compared. -/
namespace Go.Proofs.YtgdeecmhhbdjgaaGreat
set_option linter.unusedVariables false
open Go Go.RowKit Go.Maps

@[go_sem high] theorem eql_flo (a b c d e a2 b2 c2 d2 e2 : Int) (w : World) : (binOp .eql 84 (.agg #[.int .i64 a, .int .u32 b, .int .u32 c, .int .i64 d, .int .i64 e]) (.agg #[.int .i64 a2, .int .u32 b2, .int .u32 c2, .int .i64 d2, .int .i64 e2])).run Tryz.prog w = .ok (.bool (decide (Flo.mk a b c d e = Flo.mk a2 b2 c2 d2 e2))) w := by
  by_cases h0 : a = a2
  · subst h0
    by_cases h1 : b = b2
    · subst h1
      by_cases h2 : c = c2
      · subst h2
        by_cases h3 : d = d2
        · subst h3
          by_cases h4 : e = e2
          · subst h4
            go_simp
            try simp
          · have q4 : (e == e2) = false := by simpa using h4
            go_simp
            try simp [h4]
        · have q3 : (d == d2) = false := by simpa using h3
          go_simp
          try simp [h3]
      · have q2 : (c == c2) = false := by simpa using h2
        go_simp
        try simp [h2]
    · have q1 : (b == b2) = false := by simpa using h1
      go_simp
      try simp [h1]
  · have q0 : (a == a2) = false := by simpa using h0
    go_simp
    try simp [h0]
@[go_sem high] theorem neq_flo (a b c d e a2 b2 c2 d2 e2 : Int) (w : World) : (binOp .neq 84 (.agg #[.int .i64 a, .int .u32 b, .int .u32 c, .int .i64 d, .int .i64 e]) (.agg #[.int .i64 a2, .int .u32 b2, .int .u32 c2, .int .i64 d2, .int .i64 e2])).run Tryz.prog w = .ok (.bool (!(decide (Flo.mk a b c d e = Flo.mk a2 b2 c2 d2 e2)))) w := by
  by_cases h0 : a = a2
  · subst h0
    by_cases h1 : b = b2
    · subst h1
      by_cases h2 : c = c2
      · subst h2
        by_cases h3 : d = d2
        · subst h3
          by_cases h4 : e = e2
          · subst h4
            go_simp
            try simp
          · have q4 : (e == e2) = false := by simpa using h4
            go_simp
            try simp [h4]
        · have q3 : (d == d2) = false := by simpa using h3
          go_simp
          try simp [h3]
      · have q2 : (c == c2) = false := by simpa using h2
        go_simp
        try simp [h2]
    · have q1 : (b == b2) = false := by simpa using h1
      go_simp
      try simp [h1]
  · have q0 : (a == a2) = false := by simpa using h0
    go_simp
    try simp [h0]
end Go.Proofs.YtgdeecmhhbdjgaaGreat
