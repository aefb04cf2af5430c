import Derived.Test.YtgipepjpkmlmaaaQS2
import Derived.Test.YtgipepjpkmlmaaaQS3
import Derived.Test.YtgipepjpkmlmaaaQS4
import Derived.Test.YtgipepjpkmlmaaaQS6
import Derived.Test.YtgipepjpkmlmaaaQS8
namespace Go.Proofs.Ytgipepjpkmlmaaa.P
open Go.RowKit Go.Proofs.YtgipepjpkmlmaaaW.PrintWords Go.Proofs.YtgipepjpkmlmaaaW.PrintLast Go.Proofs.YtgipepjpkmlmaaaW.PrintMore
set_option linter.unusedVariables false
set_option linter.unusedSimpArgs false
set_option maxHeartbeats 16000000 in
set_option maxRecDepth 100000 in
theorem mayR_no (g : S23) (s : S28) (hg : chkG g = false) (A : Option Addr) (c : Nat) (w : World) :
    Calls Try.prog 35 #[gridV g, .agg #[.int .i64 s.f0, .int .i64 s.f1, .int .i64 s.f2, .int .i64 s.f3, .slice A s.f4.length c]] w fun e w' => e = .returned (.bool false) ∧ Below w.heap.size w w' := by
  have hu28 := Try.underlying28
  obtain ⟨WB, hWB⟩ : ∃ W, W = (w.alloc (.cells #[.int .i64 g.f0, .int .i64 g.f1, .int .i64 g.f2] 23)).alloc (.cells #[.int .i64 s.f0, .int .i64 s.f1, .int .i64 s.f2, .int .i64 s.f3, .slice A s.f4.length c] 28) := ⟨_, rfl⟩
  have hbB : Below w.heap.size w WB := by rw [hWB]; exact below_alloc (below_alloc (Below.refl _ _) _) _
  have HWB := Lib.hid hWB
  have HBB := Lib.hid hbB
  clear hWB hbB
  go_enter Try.func35, Try.ntmps35
  go_wp2_with (first | (go_at_call 24; go_loud (rw [← HWB.out]; (with_reducible refine (may14_no g hg _).mono ?_); rintro e w1 ⟨rfl, hb1⟩; have HB1 := Lib.hid hb1; clear hb1)))
  go_ret
  exact ⟨rfl, HBB.out.trans (HB1.out.mono HBB.out.size)⟩
end Go.Proofs.Ytgipepjpkmlmaaa.P
