/- The first layer's statements: what they share. -/
import Derived.Test.YtldcelgbinenbaaQNatPowersKN3
set_option linter.unusedVariables false
set_option linter.unusedSimpArgs false
namespace Go.Proofs.Ytldcelgbinenbaa.K
open Go.RowKit Go.Proofs.Ytldcelgbinenbaa.Px Go.Proofs.YtldcelgbinenbaaW.PrintWords Go.Proofs.YtldcelgbinenbaaW.PrintLast Go.Proofs.YtldcelgbinenbaaW.PrintMore

theorem known_some : Ev (fun k => (cutplanelaw01_known.f k).bind fun t => some t) true := Ev.bind known_ev (Ev.now _)
theorem same_true {x y : List Int} (h : x = y) (hb : x.length < 4611686018427387904) : Ev (fun k => cutplaneref01_Same.f k x y) true := by
  have := ref_Same_ev x y hb
  rwa [decide_eq_true h] at this
theorem wf_u32 {n : Int} (h : (Lit.int .u32 n).wf = true) : 0 ≤ n ∧ n < 4294967296 := by
  simp [Lit.wf, IntKind.min, IntKind.max, IntKind.signed, IntKind.bits] at h; omega
theorem wf_i64 {n : Int} (h : (Lit.int .i64 n).wf = true) : -9223372036854775808 ≤ n ∧ n < 9223372036854775808 := by
  simp [Lit.wf, IntKind.min, IntKind.max, IntKind.signed, IntKind.bits] at h; omega
/-! ### a number's value as a word -/
end Go.Proofs.Ytldcelgbinenbaa.K
