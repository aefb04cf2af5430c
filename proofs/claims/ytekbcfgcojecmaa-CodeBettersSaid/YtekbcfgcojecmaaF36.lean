-- Written by this session's program drv.py, by means of the kit's printer; not a text of print.sh.
import Derived.Test.YtekbcfgcojecmaaF0
import Derived.Test.YtekbcfgcojecmaaF26
import Derived.Test.YtekbcfgcojecmaaF49
import Derived.Test.YtekbcfgcojecmaaF50
namespace Go.Proofs.Ytekbcfgcojecmaa.P
open Go.RowKit Go.Proofs.YtekbcfgcojecmaaW.PrintWords Go.Proofs.YtekbcfgcojecmaaW.PrintLast Go.Proofs.YtekbcfgcojecmaaW.PrintMore
attribute [local go_sem] max2_int min2_int max_two min_two max_three min_three max_four min_four   -- for this text's walks alone
set_option linter.unusedVariables false
set_option linter.unusedSimpArgs false

/-! ### headgateref22_once: function 36 -/
mutual
def headgateref22_once.l0 : Nat → List (S54) → Int → Option ((List (S54)) × Bool)
  | 0, _, _ => none
  | k + 1, x0, x4 => if x4 < (x0.length : Int) then (if 0 ≤ x4 then (if ((rd_T54 x0 x4).f0) = 30 then (headgateref22_once.j1 k x0 x4 (((rd_T54 x0 x4).f1) == (wrap64 (x4 + 1))) ((rd_T54 x0 x4).f0) ((rd_T54 x0 x4).f1)) else (headgateref22_once.j1 k x0 x4 false ((rd_T54 x0 x4).f0) ((rd_T54 x0 x4).f1))) else (none)) else (headgateref22_once.l1 k x0 0)
def headgateref22_once.j1 : Nat → List (S54) → Int → Bool → Int → Int → Option ((List (S54)) × Bool)
  | 0, _, _, _, _, _ => none
  | k + 1, x0, x4, x28, x353000, x353001 => if x28 = true then ((headgateref22_without.f k x0 x4 1).bind fun t353 => (some (t353, true))) else (if x4 = 0 then (headgateref22_once.j2 k x0 x4 true x353000 x353001) else ((headgateref22_lands.f k x0 x4).bind fun t356 => (headgateref22_once.j2 k x0 x4 t356 x353000 x353001)))
def headgateref22_once.j2 : Nat → List (S54) → Int → Bool → Int → Int → Option ((List (S54)) × Bool)
  | 0, _, _, _, _, _ => none
  | k + 1, x0, x4, x38, x353000, x353001 => if x38 = true then (headgateref22_once.l0 k x0 (wrap64 (x4 + 1))) else (if 0 ≤ (wrap64 (x4 - 1)) then (if (wrap64 (x4 - 1)) < (x0.length : Int) then (if x353000 = 32 then (if ((rd_T54 x0 (wrap64 (x4 - 1))).f0) = 6 then (headgateref22_once.j3 k x0 x4 true x353000 x353001 ((rd_T54 x0 (wrap64 (x4 - 1))).f0) ((rd_T54 x0 (wrap64 (x4 - 1))).f1)) else (if ((rd_T54 x0 (wrap64 (x4 - 1))).f0) ≥ 12 then (headgateref22_once.j3 k x0 x4 (decide (((rd_T54 x0 (wrap64 (x4 - 1))).f0) ≤ 17)) x353000 x353001 ((rd_T54 x0 (wrap64 (x4 - 1))).f0) ((rd_T54 x0 (wrap64 (x4 - 1))).f1)) else (headgateref22_once.j3 k x0 x4 false x353000 x353001 ((rd_T54 x0 (wrap64 (x4 - 1))).f0) ((rd_T54 x0 (wrap64 (x4 - 1))).f1)))) else (headgateref22_once.j3 k x0 x4 false x353000 x353001 ((rd_T54 x0 (wrap64 (x4 - 1))).f0) ((rd_T54 x0 (wrap64 (x4 - 1))).f1))) else (none)) else (none))
def headgateref22_once.j3 : Nat → List (S54) → Int → Bool → Int → Int → Int → Int → Option ((List (S54)) × Bool)
  | 0, _, _, _, _, _, _, _ => none
  | k + 1, x0, x4, x61, x353000, x353001, x359000, x359001 => if x61 = true then ((headgateref22_without.f k x0 x4 1).bind fun t359 => (some (t359, true))) else (if x353000 = 31 then (if x359000 = 1 then (if x359001 = 0 then (headgateref22_once.l0 k x0 (wrap64 (x4 + 1))) else ((headgateref22_without.f k x0 (wrap64 (x4 - 1)) 2).bind fun t362 => (some (t362, true)))) else (headgateref22_once.l0 k x0 (wrap64 (x4 + 1)))) else (headgateref22_once.l0 k x0 (wrap64 (x4 + 1))))
def headgateref22_once.l1 : Nat → List (S54) → Int → Option ((List (S54)) × Bool)
  | 0, _, _ => none
  | k + 1, x0, x7 => if x7 < (x0.length : Int) then (if 0 ≤ x7 then ((headgateref22_jumps.f ((rd_T54 x0 x7).f0) ((rd_T54 x0 x7).f1)).bind fun t366 => (if t366 = true then (if ((rd_T54 x0 x7).f1) < (x0.length : Int) then (if 0 ≤ ((rd_T54 x0 x7).f1) then (if ((rd_T54 x0 ((rd_T54 x0 x7).f1)).f0) = 30 then (if ([] : List (S54)).length + x0.length < 8796093022208 then ((some (([] : List (S54)) ++ x0 : List (S54))).bind fun y370 => (if x7 < (y370.length : Int) then (some ((y370.set (x7 : Int).toNat (⟨(rd_T54 x0 x7).f0, (rd_T54 x0 ((rd_T54 x0 x7).f1)).f1⟩ : S54)), true)) else (none))) else (none)) else (headgateref22_once.l1 k x0 (wrap64 (x7 + 1)))) else (none)) else (headgateref22_once.l1 k x0 (wrap64 (x7 + 1)))) else (headgateref22_once.l1 k x0 (wrap64 (x7 + 1))))) else (none)) else (some (x0, false))
end
def headgateref22_once.f (k : Nat) (l0 : List (S54)) : Option ((List (S54)) × Bool) := headgateref22_once.l0 k l0 0
theorem headgateref22_once.mono_l : ∀ k, (∀ y0 y1, LeO (headgateref22_once.l0 k y0 y1) (headgateref22_once.l0 (k + 1) y0 y1)) ∧ (∀ y0 y1 y2 y3 y4, LeO (headgateref22_once.j1 k y0 y1 y2 y3 y4) (headgateref22_once.j1 (k + 1) y0 y1 y2 y3 y4)) ∧ (∀ y0 y1 y2 y3 y4, LeO (headgateref22_once.j2 k y0 y1 y2 y3 y4) (headgateref22_once.j2 (k + 1) y0 y1 y2 y3 y4)) ∧ (∀ y0 y1 y2 y3 y4 y5 y6, LeO (headgateref22_once.j3 k y0 y1 y2 y3 y4 y5 y6) (headgateref22_once.j3 (k + 1) y0 y1 y2 y3 y4 y5 y6)) ∧ (∀ y0 y1, LeO (headgateref22_once.l1 k y0 y1) (headgateref22_once.l1 (k + 1) y0 y1))
  | 0 => ⟨fun _ _ r h => by simp [headgateref22_once.l0] at h, fun _ _ _ _ _ r h => by simp [headgateref22_once.j1] at h, fun _ _ _ _ _ r h => by simp [headgateref22_once.j2] at h, fun _ _ _ _ _ _ _ r h => by simp [headgateref22_once.j3] at h, fun _ _ r h => by simp [headgateref22_once.l1] at h⟩
  | k + 1 => by
    obtain ⟨ih0, ih1, ih2, ih3, ih4⟩ := headgateref22_once.mono_l k
    refine ⟨?_, ?_, ?_, ?_, ?_⟩
    · intro y0 y1
      unfold headgateref22_once.l0
      repeat' first
      | (with_reducible exact ih0 _ _)
      | (with_reducible exact ih1 _ _ _ _ _)
      | (with_reducible exact ih2 _ _ _ _ _)
      | (with_reducible exact ih3 _ _ _ _ _ _ _)
      | (with_reducible exact ih4 _ _)
      | (with_reducible exact headgateref22_lands.mono _ _ _)
      | (with_reducible exact headgateref22_without.mono _ _ _ _)
      | (with_reducible exact LeO.refl _)
      | (with_reducible exact LeO.none _)
      | (with_reducible refine LeO.ite ?_ ?_)
      | (with_reducible refine LeO.bind ?_ (fun _ => ?_))
      | exact ih0 _ _
      | exact ih1 _ _ _ _ _
      | exact ih2 _ _ _ _ _
      | exact ih3 _ _ _ _ _ _ _
      | exact ih4 _ _
      | exact headgateref22_lands.mono _ _ _
      | exact headgateref22_without.mono _ _ _ _
      | exact LeO.none _
      | refine LeO.ite ?_ ?_
      | refine LeO.bind ?_ (fun _ => ?_)
    · intro y0 y1 y2 y3 y4
      unfold headgateref22_once.j1
      repeat' first
      | (with_reducible exact ih0 _ _)
      | (with_reducible exact ih1 _ _ _ _ _)
      | (with_reducible exact ih2 _ _ _ _ _)
      | (with_reducible exact ih3 _ _ _ _ _ _ _)
      | (with_reducible exact ih4 _ _)
      | (with_reducible exact headgateref22_lands.mono _ _ _)
      | (with_reducible exact headgateref22_without.mono _ _ _ _)
      | (with_reducible exact LeO.refl _)
      | (with_reducible exact LeO.none _)
      | (with_reducible refine LeO.ite ?_ ?_)
      | (with_reducible refine LeO.bind ?_ (fun _ => ?_))
      | exact ih0 _ _
      | exact ih1 _ _ _ _ _
      | exact ih2 _ _ _ _ _
      | exact ih3 _ _ _ _ _ _ _
      | exact ih4 _ _
      | exact headgateref22_lands.mono _ _ _
      | exact headgateref22_without.mono _ _ _ _
      | exact LeO.none _
      | refine LeO.ite ?_ ?_
      | refine LeO.bind ?_ (fun _ => ?_)
    · intro y0 y1 y2 y3 y4
      unfold headgateref22_once.j2
      repeat' first
      | (with_reducible exact ih0 _ _)
      | (with_reducible exact ih1 _ _ _ _ _)
      | (with_reducible exact ih2 _ _ _ _ _)
      | (with_reducible exact ih3 _ _ _ _ _ _ _)
      | (with_reducible exact ih4 _ _)
      | (with_reducible exact headgateref22_lands.mono _ _ _)
      | (with_reducible exact headgateref22_without.mono _ _ _ _)
      | (with_reducible exact LeO.refl _)
      | (with_reducible exact LeO.none _)
      | (with_reducible refine LeO.ite ?_ ?_)
      | (with_reducible refine LeO.bind ?_ (fun _ => ?_))
      | exact ih0 _ _
      | exact ih1 _ _ _ _ _
      | exact ih2 _ _ _ _ _
      | exact ih3 _ _ _ _ _ _ _
      | exact ih4 _ _
      | exact headgateref22_lands.mono _ _ _
      | exact headgateref22_without.mono _ _ _ _
      | exact LeO.none _
      | refine LeO.ite ?_ ?_
      | refine LeO.bind ?_ (fun _ => ?_)
    · intro y0 y1 y2 y3 y4 y5 y6
      unfold headgateref22_once.j3
      repeat' first
      | (with_reducible exact ih0 _ _)
      | (with_reducible exact ih1 _ _ _ _ _)
      | (with_reducible exact ih2 _ _ _ _ _)
      | (with_reducible exact ih3 _ _ _ _ _ _ _)
      | (with_reducible exact ih4 _ _)
      | (with_reducible exact headgateref22_lands.mono _ _ _)
      | (with_reducible exact headgateref22_without.mono _ _ _ _)
      | (with_reducible exact LeO.refl _)
      | (with_reducible exact LeO.none _)
      | (with_reducible refine LeO.ite ?_ ?_)
      | (with_reducible refine LeO.bind ?_ (fun _ => ?_))
      | exact ih0 _ _
      | exact ih1 _ _ _ _ _
      | exact ih2 _ _ _ _ _
      | exact ih3 _ _ _ _ _ _ _
      | exact ih4 _ _
      | exact headgateref22_lands.mono _ _ _
      | exact headgateref22_without.mono _ _ _ _
      | exact LeO.none _
      | refine LeO.ite ?_ ?_
      | refine LeO.bind ?_ (fun _ => ?_)
    · intro y0 y1
      unfold headgateref22_once.l1
      repeat' first
      | (with_reducible exact ih0 _ _)
      | (with_reducible exact ih1 _ _ _ _ _)
      | (with_reducible exact ih2 _ _ _ _ _)
      | (with_reducible exact ih3 _ _ _ _ _ _ _)
      | (with_reducible exact ih4 _ _)
      | (with_reducible exact headgateref22_lands.mono _ _ _)
      | (with_reducible exact headgateref22_without.mono _ _ _ _)
      | (with_reducible exact LeO.refl _)
      | (with_reducible exact LeO.none _)
      | (with_reducible refine LeO.ite ?_ ?_)
      | (with_reducible refine LeO.bind ?_ (fun _ => ?_))
      | exact ih0 _ _
      | exact ih1 _ _ _ _ _
      | exact ih2 _ _ _ _ _
      | exact ih3 _ _ _ _ _ _ _
      | exact ih4 _ _
      | exact headgateref22_lands.mono _ _ _
      | exact headgateref22_without.mono _ _ _ _
      | exact LeO.none _
      | refine LeO.ite ?_ ?_
      | refine LeO.bind ?_ (fun _ => ?_)
theorem headgateref22_once.mono : ∀ a0 k, LeO (headgateref22_once.f k a0) (headgateref22_once.f (k + 1) a0) := by
  intro a0 k
  obtain ⟨ih0, ih1, ih2, ih3, ih4⟩ := headgateref22_once.mono_l k
  unfold headgateref22_once.f
  repeat' first
      | (with_reducible exact ih0 _ _)
      | (with_reducible exact ih1 _ _ _ _ _)
      | (with_reducible exact ih2 _ _ _ _ _)
      | (with_reducible exact ih3 _ _ _ _ _ _ _)
      | (with_reducible exact ih4 _ _)
      | (with_reducible exact headgateref22_lands.mono _ _ _)
      | (with_reducible exact headgateref22_without.mono _ _ _ _)
      | (with_reducible exact LeO.refl _)
      | (with_reducible exact LeO.none _)
      | (with_reducible refine LeO.ite ?_ ?_)
      | (with_reducible refine LeO.bind ?_ (fun _ => ?_))
      | exact ih0 _ _
      | exact ih1 _ _ _ _ _
      | exact ih2 _ _ _ _ _
      | exact ih3 _ _ _ _ _ _ _
      | exact ih4 _ _
      | exact headgateref22_lands.mono _ _ _
      | exact headgateref22_without.mono _ _ _ _
      | exact LeO.none _
      | refine LeO.ite ?_ ?_
      | refine LeO.bind ?_ (fun _ => ?_)
end Go.Proofs.Ytekbcfgcojecmaa.P
