import Derived.Test.YtgipepjpkmlmaaaQR2
import Derived.Test.YtgipepjpkmlmaaaQR3
import Derived.Test.YtgipepjpkmlmaaaQR4
import Derived.Test.YtgipepjpkmlmaaaQR6
import Derived.Test.YtgipepjpkmlmaaaQR8
namespace Go.Proofs.Ytgipepjpkmlmaaa.P
open Go.RowKit Go.Proofs.YtgipepjpkmlmaaaW.PrintWords Go.Proofs.YtgipepjpkmlmaaaW.PrintLast Go.Proofs.YtgipepjpkmlmaaaW.PrintMore
set_option linter.unusedVariables false
set_option linter.unusedSimpArgs false
/-- When an aggregate may be. -/
structure okC (a : S44) : Prop where
  c0 : 1 ≤ a.f0
  c1 : a.f0 ≤ 1099511627776
  lo : a.f2 ≤ a.f3
  h0 : 0 ≤ a.f4.f0
  h1 : 0 ≤ a.f4.f1
  h2 : 0 ≤ a.f4.f2
  h3 : 0 ≤ a.f4.f3
  sum : a.f4.f0 + a.f4.f1 + a.f4.f2 + a.f4.f3 = a.f0
  pp : a.f5 + a.f6 ≤ a.f0
  pm : a.f5 - a.f6 ≤ a.f0
  mp : -a.f5 + a.f6 ≤ a.f0
  mm : -a.f5 - a.f6 ≤ a.f0
end Go.Proofs.Ytgipepjpkmlmaaa.P
