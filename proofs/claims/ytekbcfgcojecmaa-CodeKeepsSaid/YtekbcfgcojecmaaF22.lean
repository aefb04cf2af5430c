-- Written by this session's program drv.py, by means of the kit's printer; not a text of print.sh.
import Derived.Test.YtekbcfgcojecmaaF0
import Derived.Test.YtekbcfgcojecmaaF12
import Derived.Test.YtekbcfgcojecmaaF36
namespace Go.Proofs.Ytekbcfgcojecmaa.P
open Go.RowKit Go.Proofs.YtekbcfgcojecmaaW.PrintWords Go.Proofs.YtekbcfgcojecmaaW.PrintLast Go.Proofs.YtekbcfgcojecmaaW.PrintMore
attribute [local go_sem] max2_int min2_int max_two min_two max_three min_three max_four min_four   -- for this text's walks alone
set_option linter.unusedVariables false
set_option linter.unusedSimpArgs false

/-! ### headgateref22_Better: function 22 -/
def headgateref22_Better.l0 : Nat → List (S54) → Bool → Int → Option ((List (S54)) × Int)
  | 0, _, _, _ => none
  | k + 1, x0, x4, x5 => if x5 < 4096 then (if x4 = true then ((headgateref22_once.f k x0).bind fun bt378 => (headgateref22_Better.l0 k bt378.1 bt378.2 (wrap64 (x5 + 1)))) else (some (x0, 0))) else (some (x0, 0))
def headgateref22_Better.f (k : Nat) (l0 : List (S54)) : Option ((List (S54)) × Int) := (headgateref22_May.f k l0).bind fun t377 => (if t377 = true then (headgateref22_Better.l0 k l0 true 0) else (some (([] : List (S54)), 1)))
theorem headgateref22_Better.mono_l : ∀ k, (∀ y0 y1 y2, LeO (headgateref22_Better.l0 k y0 y1 y2) (headgateref22_Better.l0 (k + 1) y0 y1 y2))
  | 0 => fun _ _ _ r h => by simp [headgateref22_Better.l0] at h
  | k + 1 => by
    have ih0 := headgateref22_Better.mono_l k
    · intro y0 y1 y2
      unfold headgateref22_Better.l0
      repeat' first
      | (with_reducible exact ih0 _ _ _)
      | (with_reducible exact headgateref22_May.mono _ _)
      | (with_reducible exact headgateref22_once.mono _ _)
      | (with_reducible exact LeO.refl _)
      | (with_reducible exact LeO.none _)
      | (with_reducible refine LeO.ite ?_ ?_)
      | (with_reducible refine LeO.bind ?_ (fun _ => ?_))
      | exact ih0 _ _ _
      | exact headgateref22_May.mono _ _
      | exact headgateref22_once.mono _ _
      | exact LeO.none _
      | refine LeO.ite ?_ ?_
      | refine LeO.bind ?_ (fun _ => ?_)
theorem headgateref22_Better.mono : ∀ a0 k, LeO (headgateref22_Better.f k a0) (headgateref22_Better.f (k + 1) a0) := by
  intro a0 k
  have ih0 := headgateref22_Better.mono_l k
  unfold headgateref22_Better.f
  repeat' first
      | (with_reducible exact ih0 _ _ _)
      | (with_reducible exact headgateref22_May.mono _ _)
      | (with_reducible exact headgateref22_once.mono _ _)
      | (with_reducible exact LeO.refl _)
      | (with_reducible exact LeO.none _)
      | (with_reducible refine LeO.ite ?_ ?_)
      | (with_reducible refine LeO.bind ?_ (fun _ => ?_))
      | exact ih0 _ _ _
      | exact headgateref22_May.mono _ _
      | exact headgateref22_once.mono _ _
      | exact LeO.none _
      | refine LeO.ite ?_ ?_
      | refine LeO.bind ?_ (fun _ => ?_)
end Go.Proofs.Ytekbcfgcojecmaa.P
