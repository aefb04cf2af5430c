-- Written by this session's program drv.py, by means of the kit's printer; not a text of print.sh.
import Derived.Test.YtekbcfgcojecmaaF0
import Derived.Test.YtekbcfgcojecmaaF25
import Derived.Test.YtekbcfgcojecmaaF26
import Derived.Test.YtekbcfgcojecmaaF27
namespace Go.Proofs.Ytekbcfgcojecmaa.P
open Go.RowKit Go.Proofs.YtekbcfgcojecmaaW.PrintWords Go.Proofs.YtekbcfgcojecmaaW.PrintLast Go.Proofs.YtekbcfgcojecmaaW.PrintMore
attribute [local go_sem] max2_int min2_int max_two min_two max_three min_three max_four min_four   -- for this text's walks alone
set_option linter.unusedVariables false
set_option linter.unusedSimpArgs false

/-! ### headgateref22_May: function 12 -/
mutual
def headgateref22_May.j0 : Nat → List (S54) → Bool → Option (Bool)
  | 0, _, _ => none
  | k + 1, x0, x17 => if x17 = true then (some false) else (headgateref22_May.l0 k x0 0)
def headgateref22_May.l0 : Nat → List (S54) → Int → Option (Bool)
  | 0, _, _ => none
  | k + 1, x0, x3 => if x3 < (x0.length : Int) then (if 0 ≤ x3 then ((headgateref22_takes.f k ((rd_T54 x0 x3).f0) ((rd_T54 x0 x3).f1)).bind fun t114 => (if t114 < 0 then (some false) else ((headgateref22_jumps.f ((rd_T54 x0 x3).f0) ((rd_T54 x0 x3).f1)).bind fun t116 => (if t116 = true then (if ((rd_T54 x0 x3).f1) ≤ x3 then (some false) else (if ((rd_T54 x0 x3).f1) > (x0.length : Int) then (some false) else (headgateref22_May.l0 k x0 (wrap64 (x3 + 1))))) else (headgateref22_May.l0 k x0 (wrap64 (x3 + 1))))))) else (none)) else (headgateref22_May.l1 k x0 ([] : List Int) 0)
def headgateref22_May.l1 : Nat → List (S54) → List Int → Int → Option (Bool)
  | 0, _, _, _ => none
  | k + 1, x0, x4, x5 => if x5 ≤ (x0.length : Int) then (if x4.length < 17592186044416 then (headgateref22_May.l1 k x0 (x4 ++ [(-1)]) (wrap64 (x5 + 1))) else (none)) else (if 0 < (x4.length : Int) then (headgateref22_May.l2 k x0 (x4.set (0 : Int).toNat 0) 0) else (none))
def headgateref22_May.l2 : Nat → List (S54) → List Int → Int → Option (Bool)
  | 0, _, _, _ => none
  | k + 1, x0, x4, x6 => if x6 < (x0.length : Int) then (if 0 ≤ x6 then (if x6 < (x4.length : Int) then (if (rd x4 x6) < 0 then (headgateref22_May.l2 k x0 x4 (wrap64 (x6 + 1))) else ((headgateref22_takes.f k ((rd_T54 x0 x6).f0) ((rd_T54 x0 x6).f1)).bind fun t127 => (if (rd x4 x6) < t127 then (some false) else ((headgateref22_takes.f k ((rd_T54 x0 x6).f0) ((rd_T54 x0 x6).f1)).bind fun t130 => ((headgateref22_puts.f ((rd_T54 x0 x6).f0) ((rd_T54 x0 x6).f1)).bind fun t132 => ((headgateref22_jumps.f ((rd_T54 x0 x6).f0) ((rd_T54 x0 x6).f1)).bind fun t134 => (if t134 = true then (if ([] : List Int).length < 17592186044416 then (headgateref22_May.j4 k x0 x4 x6 (wrap64 ((wrap64 ((rd x4 x6) - t130)) + t132)) (([] : List Int) ++ [(rd_T54 x0 x6).f1])) else (none)) else (headgateref22_May.j4 k x0 x4 x6 (wrap64 ((wrap64 ((rd x4 x6) - t130)) + t132)) ([] : List Int))))))))) else (none)) else (none)) else (if 0 ≤ (x0.length : Int) then (if (x0.length : Int) < (x4.length : Int) then (some ((rd x4 (x0.length : Int)) == 1)) else (none)) else (none))
def headgateref22_May.j4 : Nat → List (S54) → List Int → Int → Int → List Int → Option (Bool)
  | 0, _, _, _, _, _ => none
  | k + 1, x0, x4, x6, x7, x8 => if 0 ≤ x6 then (if x6 < (x0.length : Int) then (if ((rd_T54 x0 x6).f0) = 30 then (headgateref22_May.j5 k x0 x4 x6 x7 x8) else (if x8.length < 17592186044416 then (headgateref22_May.j5 k x0 x4 x6 x7 (x8 ++ [wrap64 (x6 + 1)])) else (none))) else (none)) else (none)
def headgateref22_May.j5 : Nat → List (S54) → List Int → Int → Int → List Int → Option (Bool)
  | 0, _, _, _, _, _ => none
  | k + 1, x0, x4, x6, x7, x8 => headgateref22_May.l3 k x0 x4 x6 x7 x8 0
def headgateref22_May.l3 : Nat → List (S54) → List Int → Int → Int → List Int → Int → Option (Bool)
  | 0, _, _, _, _, _, _ => none
  | k + 1, x0, x4, x6, x7, x8, x9 => if x9 < (x8.length : Int) then (if x7 > 64 then (some false) else (if 0 ≤ x9 then (if 0 ≤ (rd x8 x9) then (if (rd x8 x9) < (x4.length : Int) then (if (rd x4 (rd x8 x9)) ≥ 0 then (if (rd x4 (rd x8 x9)) = x7 then (headgateref22_May.l3 k x0 (x4.set ((rd x8 x9) : Int).toNat x7) x6 x7 x8 (wrap64 (x9 + 1))) else (some false)) else (headgateref22_May.l3 k x0 (x4.set ((rd x8 x9) : Int).toNat x7) x6 x7 x8 (wrap64 (x9 + 1)))) else (none)) else (none)) else (none))) else (headgateref22_May.l2 k x0 x4 (wrap64 (x6 + 1)))
end
def headgateref22_May.f (k : Nat) (l0 : List (S54)) : Option (Bool) := if (l0.length : Int) = 0 then (headgateref22_May.j0 k l0 true) else (headgateref22_May.j0 k l0 (decide ((l0.length : Int) > 1024)))
theorem headgateref22_May.mono_l : ∀ k, (∀ y0 y1, LeO (headgateref22_May.j0 k y0 y1) (headgateref22_May.j0 (k + 1) y0 y1)) ∧ (∀ y0 y1, LeO (headgateref22_May.l0 k y0 y1) (headgateref22_May.l0 (k + 1) y0 y1)) ∧ (∀ y0 y1 y2, LeO (headgateref22_May.l1 k y0 y1 y2) (headgateref22_May.l1 (k + 1) y0 y1 y2)) ∧ (∀ y0 y1 y2, LeO (headgateref22_May.l2 k y0 y1 y2) (headgateref22_May.l2 (k + 1) y0 y1 y2)) ∧ (∀ y0 y1 y2 y3 y4, LeO (headgateref22_May.j4 k y0 y1 y2 y3 y4) (headgateref22_May.j4 (k + 1) y0 y1 y2 y3 y4)) ∧ (∀ y0 y1 y2 y3 y4, LeO (headgateref22_May.j5 k y0 y1 y2 y3 y4) (headgateref22_May.j5 (k + 1) y0 y1 y2 y3 y4)) ∧ (∀ y0 y1 y2 y3 y4 y5, LeO (headgateref22_May.l3 k y0 y1 y2 y3 y4 y5) (headgateref22_May.l3 (k + 1) y0 y1 y2 y3 y4 y5))
  | 0 => ⟨fun _ _ r h => by simp [headgateref22_May.j0] at h, fun _ _ r h => by simp [headgateref22_May.l0] at h, fun _ _ _ r h => by simp [headgateref22_May.l1] at h, fun _ _ _ r h => by simp [headgateref22_May.l2] at h, fun _ _ _ _ _ r h => by simp [headgateref22_May.j4] at h, fun _ _ _ _ _ r h => by simp [headgateref22_May.j5] at h, fun _ _ _ _ _ _ r h => by simp [headgateref22_May.l3] at h⟩
  | k + 1 => by
    obtain ⟨ih0, ih1, ih2, ih3, ih4, ih5, ih6⟩ := headgateref22_May.mono_l k
    refine ⟨?_, ?_, ?_, ?_, ?_, ?_, ?_⟩
    · intro y0 y1
      unfold headgateref22_May.j0
      repeat' first
      | (with_reducible exact ih0 _ _)
      | (with_reducible exact ih1 _ _)
      | (with_reducible exact ih2 _ _ _)
      | (with_reducible exact ih3 _ _ _)
      | (with_reducible exact ih4 _ _ _ _ _)
      | (with_reducible exact ih5 _ _ _ _ _)
      | (with_reducible exact ih6 _ _ _ _ _ _)
      | (with_reducible exact headgateref22_takes.mono _ _ _)
      | (with_reducible exact LeO.refl _)
      | (with_reducible exact LeO.none _)
      | (with_reducible refine LeO.ite ?_ ?_)
      | (with_reducible refine LeO.bind ?_ (fun _ => ?_))
      | exact ih0 _ _
      | exact ih1 _ _
      | exact ih2 _ _ _
      | exact ih3 _ _ _
      | exact ih4 _ _ _ _ _
      | exact ih5 _ _ _ _ _
      | exact ih6 _ _ _ _ _ _
      | exact headgateref22_takes.mono _ _ _
      | exact LeO.none _
      | refine LeO.ite ?_ ?_
      | refine LeO.bind ?_ (fun _ => ?_)
    · intro y0 y1
      unfold headgateref22_May.l0
      repeat' first
      | (with_reducible exact ih0 _ _)
      | (with_reducible exact ih1 _ _)
      | (with_reducible exact ih2 _ _ _)
      | (with_reducible exact ih3 _ _ _)
      | (with_reducible exact ih4 _ _ _ _ _)
      | (with_reducible exact ih5 _ _ _ _ _)
      | (with_reducible exact ih6 _ _ _ _ _ _)
      | (with_reducible exact headgateref22_takes.mono _ _ _)
      | (with_reducible exact LeO.refl _)
      | (with_reducible exact LeO.none _)
      | (with_reducible refine LeO.ite ?_ ?_)
      | (with_reducible refine LeO.bind ?_ (fun _ => ?_))
      | exact ih0 _ _
      | exact ih1 _ _
      | exact ih2 _ _ _
      | exact ih3 _ _ _
      | exact ih4 _ _ _ _ _
      | exact ih5 _ _ _ _ _
      | exact ih6 _ _ _ _ _ _
      | exact headgateref22_takes.mono _ _ _
      | exact LeO.none _
      | refine LeO.ite ?_ ?_
      | refine LeO.bind ?_ (fun _ => ?_)
    · intro y0 y1 y2
      unfold headgateref22_May.l1
      repeat' first
      | (with_reducible exact ih0 _ _)
      | (with_reducible exact ih1 _ _)
      | (with_reducible exact ih2 _ _ _)
      | (with_reducible exact ih3 _ _ _)
      | (with_reducible exact ih4 _ _ _ _ _)
      | (with_reducible exact ih5 _ _ _ _ _)
      | (with_reducible exact ih6 _ _ _ _ _ _)
      | (with_reducible exact headgateref22_takes.mono _ _ _)
      | (with_reducible exact LeO.refl _)
      | (with_reducible exact LeO.none _)
      | (with_reducible refine LeO.ite ?_ ?_)
      | (with_reducible refine LeO.bind ?_ (fun _ => ?_))
      | exact ih0 _ _
      | exact ih1 _ _
      | exact ih2 _ _ _
      | exact ih3 _ _ _
      | exact ih4 _ _ _ _ _
      | exact ih5 _ _ _ _ _
      | exact ih6 _ _ _ _ _ _
      | exact headgateref22_takes.mono _ _ _
      | exact LeO.none _
      | refine LeO.ite ?_ ?_
      | refine LeO.bind ?_ (fun _ => ?_)
    · intro y0 y1 y2
      unfold headgateref22_May.l2
      repeat' first
      | (with_reducible exact ih0 _ _)
      | (with_reducible exact ih1 _ _)
      | (with_reducible exact ih2 _ _ _)
      | (with_reducible exact ih3 _ _ _)
      | (with_reducible exact ih4 _ _ _ _ _)
      | (with_reducible exact ih5 _ _ _ _ _)
      | (with_reducible exact ih6 _ _ _ _ _ _)
      | (with_reducible exact headgateref22_takes.mono _ _ _)
      | (with_reducible exact LeO.refl _)
      | (with_reducible exact LeO.none _)
      | (with_reducible refine LeO.ite ?_ ?_)
      | (with_reducible refine LeO.bind ?_ (fun _ => ?_))
      | exact ih0 _ _
      | exact ih1 _ _
      | exact ih2 _ _ _
      | exact ih3 _ _ _
      | exact ih4 _ _ _ _ _
      | exact ih5 _ _ _ _ _
      | exact ih6 _ _ _ _ _ _
      | exact headgateref22_takes.mono _ _ _
      | exact LeO.none _
      | refine LeO.ite ?_ ?_
      | refine LeO.bind ?_ (fun _ => ?_)
    · intro y0 y1 y2 y3 y4
      unfold headgateref22_May.j4
      repeat' first
      | (with_reducible exact ih0 _ _)
      | (with_reducible exact ih1 _ _)
      | (with_reducible exact ih2 _ _ _)
      | (with_reducible exact ih3 _ _ _)
      | (with_reducible exact ih4 _ _ _ _ _)
      | (with_reducible exact ih5 _ _ _ _ _)
      | (with_reducible exact ih6 _ _ _ _ _ _)
      | (with_reducible exact headgateref22_takes.mono _ _ _)
      | (with_reducible exact LeO.refl _)
      | (with_reducible exact LeO.none _)
      | (with_reducible refine LeO.ite ?_ ?_)
      | (with_reducible refine LeO.bind ?_ (fun _ => ?_))
      | exact ih0 _ _
      | exact ih1 _ _
      | exact ih2 _ _ _
      | exact ih3 _ _ _
      | exact ih4 _ _ _ _ _
      | exact ih5 _ _ _ _ _
      | exact ih6 _ _ _ _ _ _
      | exact headgateref22_takes.mono _ _ _
      | exact LeO.none _
      | refine LeO.ite ?_ ?_
      | refine LeO.bind ?_ (fun _ => ?_)
    · intro y0 y1 y2 y3 y4
      unfold headgateref22_May.j5
      repeat' first
      | (with_reducible exact ih0 _ _)
      | (with_reducible exact ih1 _ _)
      | (with_reducible exact ih2 _ _ _)
      | (with_reducible exact ih3 _ _ _)
      | (with_reducible exact ih4 _ _ _ _ _)
      | (with_reducible exact ih5 _ _ _ _ _)
      | (with_reducible exact ih6 _ _ _ _ _ _)
      | (with_reducible exact headgateref22_takes.mono _ _ _)
      | (with_reducible exact LeO.refl _)
      | (with_reducible exact LeO.none _)
      | (with_reducible refine LeO.ite ?_ ?_)
      | (with_reducible refine LeO.bind ?_ (fun _ => ?_))
      | exact ih0 _ _
      | exact ih1 _ _
      | exact ih2 _ _ _
      | exact ih3 _ _ _
      | exact ih4 _ _ _ _ _
      | exact ih5 _ _ _ _ _
      | exact ih6 _ _ _ _ _ _
      | exact headgateref22_takes.mono _ _ _
      | exact LeO.none _
      | refine LeO.ite ?_ ?_
      | refine LeO.bind ?_ (fun _ => ?_)
    · intro y0 y1 y2 y3 y4 y5
      unfold headgateref22_May.l3
      repeat' first
      | (with_reducible exact ih0 _ _)
      | (with_reducible exact ih1 _ _)
      | (with_reducible exact ih2 _ _ _)
      | (with_reducible exact ih3 _ _ _)
      | (with_reducible exact ih4 _ _ _ _ _)
      | (with_reducible exact ih5 _ _ _ _ _)
      | (with_reducible exact ih6 _ _ _ _ _ _)
      | (with_reducible exact headgateref22_takes.mono _ _ _)
      | (with_reducible exact LeO.refl _)
      | (with_reducible exact LeO.none _)
      | (with_reducible refine LeO.ite ?_ ?_)
      | (with_reducible refine LeO.bind ?_ (fun _ => ?_))
      | exact ih0 _ _
      | exact ih1 _ _
      | exact ih2 _ _ _
      | exact ih3 _ _ _
      | exact ih4 _ _ _ _ _
      | exact ih5 _ _ _ _ _
      | exact ih6 _ _ _ _ _ _
      | exact headgateref22_takes.mono _ _ _
      | exact LeO.none _
      | refine LeO.ite ?_ ?_
      | refine LeO.bind ?_ (fun _ => ?_)
theorem headgateref22_May.mono : ∀ a0 k, LeO (headgateref22_May.f k a0) (headgateref22_May.f (k + 1) a0) := by
  intro a0 k
  obtain ⟨ih0, ih1, ih2, ih3, ih4, ih5, ih6⟩ := headgateref22_May.mono_l k
  unfold headgateref22_May.f
  repeat' first
      | (with_reducible exact ih0 _ _)
      | (with_reducible exact ih1 _ _)
      | (with_reducible exact ih2 _ _ _)
      | (with_reducible exact ih3 _ _ _)
      | (with_reducible exact ih4 _ _ _ _ _)
      | (with_reducible exact ih5 _ _ _ _ _)
      | (with_reducible exact ih6 _ _ _ _ _ _)
      | (with_reducible exact headgateref22_takes.mono _ _ _)
      | (with_reducible exact LeO.refl _)
      | (with_reducible exact LeO.none _)
      | (with_reducible refine LeO.ite ?_ ?_)
      | (with_reducible refine LeO.bind ?_ (fun _ => ?_))
      | exact ih0 _ _
      | exact ih1 _ _
      | exact ih2 _ _ _
      | exact ih3 _ _ _
      | exact ih4 _ _ _ _ _
      | exact ih5 _ _ _ _ _
      | exact ih6 _ _ _ _ _ _
      | exact headgateref22_takes.mono _ _ _
      | exact LeO.none _
      | refine LeO.ite ?_ ?_
      | refine LeO.bind ?_ (fun _ => ?_)
def headgateref22_May.T18 : Bool × List (List Nat × List Nat) := (true, [([], []), ([], []), ([0, 1], [0, 1]), ([2], [2]), ([], []), ([], []), ([4, 5], [4, 5]), ([6], [6]), ([7], [7]), ([3, 8], [3, 8])])
def headgateref22_May.B18 : List Nat := [0, 0, 3, 7, 0, 0, 48, 112, 240, 511]
theorem headgateref22_May.tab18 : rtab .any (opsOf Try.f12 18) = headgateref22_May.T18 := by kernel_rfl
theorem headgateref22_May.bits18 : waitsOk headgateref22_May.T18.2 headgateref22_May.B18 = true := by kernel_rfl
def headgateref22_May.T20 : Bool × List (List Nat × List Nat) := (true, [([], []), ([], []), ([0, 1], [0, 1]), ([2], [2]), ([], []), ([], []), ([4, 5], [4, 5]), ([6], [6]), ([7], [7]), ([3, 8], [3, 8]), ([], []), ([], []), ([10, 11], [10, 11]), ([12], [12]), ([13, 8], [13]), ([9, 14], [9, 14]), ([15, 14, 0, 1, 2, 3, 4, 5, 6, 7, 8, 9, 10, 11, 12, 13, 14, 15], [15])])
def headgateref22_May.B20 : List Nat := [0, 0, 3, 7, 0, 0, 48, 112, 240, 511, 0, 0, 3072, 7168, 15856, 32767, 65535]
theorem headgateref22_May.tab20 : rtab .any (opsOf Try.f12 20) = headgateref22_May.T20 := by kernel_rfl
theorem headgateref22_May.bits20 : waitsOk headgateref22_May.T20.2 headgateref22_May.B20 = true := by kernel_rfl
set_option maxHeartbeats 8000000 in
set_option maxRecDepth 100000 in
theorem headgateref22_May.calls (k : Nat) (A0 : Option Addr) (c0 : Nat) (l0 : List (S54)) (r : Bool) (w : World) (hr0 : Kd.C k54 w A0 l0.length l0) (hc0 : l0.length ≤ c0) (h : headgateref22_May.f k l0 = some r) :
    Calls Try.prog 12 #[.slice A0 l0.length c0] w fun e w' => e = .returned (.bool r) ∧ Below w.heap.size w w' := by
  have hu54 := Try.underlying54
  have HR0 := Aside0.mk hr0
  have HC0 := Aside0.mk hc0
  clear hr0 hc0
  have HB := Aside0.mk (Below.refl w.heap.size w)
  have H : (if (l0.length : Int) = 0 then (headgateref22_May.j0 k l0 true) else (headgateref22_May.j0 k l0 (decide ((l0.length : Int) > 1024)))) = some r := h
  clear h
  have HC2 := Aside0.mk H
  clear H
  go_enter Try.func12, Try.ntmps12
  go_upto_region 1 with (fail)
  go_cut [17] (fun v17 wc => ∃ (kq : Nat) (x17_1 : Bool), v17 = .bool x17_1 ∧ Aside0 (headgateref22_May.j0 kq l0 x17_1 = some r) ∧ Aside0 (kq ≤ k) ∧ Aside0 (Below w.heap.size w wc))
  case first =>
    have H := HC2.out
    clear HC2
    by_cases c3 : (l0.length : Int) = 0
    · rw [if_pos c3] at H
      have c3b0 : ((l0.length : Int) == 0) = true := beq_iff_eq.mpr c3
      have c3b1 : ((l0.length : Int) != 0) = false := bne_eq_false_iff_eq.mpr c3
      clear c3
      (first | rw [c3b0] | (simp only [i64_w, i32_w]; rw [c3b0]) | skip)
      have H' := Aside0.mk H
      clear H
      go_wp2
      go_meet
      case rel => exact ⟨_, (true), (by first | rfl | (simp; done) | (simp [*]; done)), H', ⟨by first | omega | exact Nat.le_refl _⟩, ⟨by repeat (first | (with_reducible first | exact HB.out | apply below_alloc | apply pw_below_drewN | apply below_drew1) | exact HB.out)⟩⟩
    · rw [if_neg c3] at H
      have c3b0 : ((l0.length : Int) == 0) = false := beq_eq_false_iff_ne.mpr c3
      have c3b1 : ((l0.length : Int) != 0) = true := bne_iff_ne.mpr c3
      have c3b2 : ¬ (l0 = []) := fun h_ => c3 (by rw [h_]; rfl)
      (first | rw [c3b0] | (simp only [i64_w, i32_w]; rw [c3b0]) | skip)
      have H' := Aside0.mk H
      clear H
      go_wp2
      go_meet
      case rel => exact ⟨_, (decide ((l0.length : Int) > 1024)), (by first | rfl | (simp; done) | (simp [*]; done)), H', ⟨by first | omega | exact Nat.le_refl _⟩, ⟨by repeat (first | (with_reducible first | exact HB.out | apply below_alloc | apply pw_below_drewN | apply below_drew1) | exact HB.out)⟩⟩
  case rest =>
    clear HC2
    try clear c1
    try clear p2
    try clear c3
    try clear c3b0
    try clear c3b1
    try clear c3b2
    obtain ⟨kq, x17_1, rfl, HA, HJ1, HB⟩ := hcut
    cases kq with
    | zero => exact absurd HA.out (by simp [headgateref22_May.j0])
    | succ kj1 =>
      have H := HA.out
      clear HA
      simp only [headgateref22_May.j0] at H
      by_cases c4 : x17_1 = true
      · subst c4
        have H1 : (some false) = some r := by rw [if_pos rfl] at H; exact H
        clear H
        have H := H1
        clear H1
        obtain rfl := Option.some.inj H
        go_wp2
        go_ret
        exact ⟨by first | rfl | (simp [errW_none, errW_some] <;> rfl) | (simp [*, errW_none, errW_some] <;> rfl), by repeat (first | (with_reducible first | exact HB.out | apply below_alloc | apply pw_below_drewN | apply below_drew1) | exact HB.out)⟩
      · replace c4 := Bool.eq_false_iff.mpr c4
        subst c4
        have H1 : (headgateref22_May.l0 kj1 l0 0) = some r := by rw [if_neg (show ¬ (false = true) by decide)] at H; exact H
        clear H
        have H := H1
        clear H1
        have H' := Aside0.mk H
        clear H
        go_wp2
        (try simp only [Act.put, List.setIfInBounds_toArray, List.set_cons_zero, List.set_cons_succ])
        go_loopg [3] kj1 (fun kq v3 w' => ∃ (x3_2 : Int), v3 = .int .i64 x3_2 ∧ Aside0 (headgateref22_May.l0 kq l0 x3_2 = some r) ∧ Aside0 (kq ≤ kj1) ∧ Aside0 (Below w.heap.size w w'))
        case atStart => exact ⟨(0), (by first | rfl | (simp; done) | (simp [*]; done)), H', ⟨Nat.le_refl _⟩, ⟨by repeat (first | (with_reducible first | exact HB.out | apply below_alloc | apply pw_below_drewN | apply below_drew1) | exact HB.out)⟩⟩
        case round =>
          clear H'
          try clear c1
          try clear p2
          try clear c3
          try clear c3b0
          try clear c3b1
          try clear c3b2
          try clear c4
          try clear p2
          obtain ⟨x3_2, rfl, HA, HK2, HB⟩ := hrel
          cases gk with
          | zero => exact absurd HA.out (by simp [headgateref22_May.l0])
          | succ k2 =>
            have H := HA.out
            clear HA
            simp only [headgateref22_May.l0] at H
            by_cases c5 : x3_2 < (l0.length : Int)
            · rw [if_pos c5] at H
              have c5b0 : decide (x3_2 < (l0.length : Int)) = true := decide_eq_true c5
              clear c5
              by_cases c6 : 0 ≤ x3_2
              · rw [if_pos c6] at H
                have c6b0 : decide (0 ≤ x3_2) = true := decide_eq_true c6
                clear c6
                replace H := Option.bind_eq_some_iff.mp H
                obtain ⟨t114, A70, H⟩ := H
                replace H : (if t114 < 0 then (some false) else ((headgateref22_jumps.f ((rd_T54 l0 x3_2).f0) ((rd_T54 l0 x3_2).f1)).bind fun t116 => (if t116 = true then (if ((rd_T54 l0 x3_2).f1) ≤ x3_2 then (some false) else (if ((rd_T54 l0 x3_2).f1) > (l0.length : Int) then (some false) else (headgateref22_May.l0 k2 l0 (wrap64 (x3_2 + 1))))) else (headgateref22_May.l0 k2 l0 (wrap64 (x3_2 + 1)))))) = some r := H
                have A7 := Aside0.mk A70
                clear A70
                by_cases c8 : t114 < 0
                · rw [if_pos c8] at H
                  have c8b0 : decide (t114 < 0) = true := decide_eq_true c8
                  clear c8
                  obtain rfl := Option.some.inj H
                  have p113 : 0 ≤ (x3_2 : Int) := of_decide_eq_true (by first | (with_reducible assumption) | assumption)
                  have q113 : x3_2 < (l0.length : Int) := of_decide_eq_true (by first | (with_reducible assumption) | assumption)
                  obtain ⟨ad113, e113, hx113_0, hx113_1⟩ := at_T54 HR0.out x3_2 p113 q113
                  cases e113
                  replace hx113_0 := (HB.out.cell (World.block_lt_of_cell? w _ hx113_0)).trans hx113_0
                  replace hx113_1 := (HB.out.cell (World.block_lt_of_cell? w _ hx113_1)).trans hx113_1
                  replace p113 := eq_true p113
                  replace q113 := eq_true q113
                  go_wp2_with (first | ((with_reducible refine gate_callee (f := 25) rfl ?_); refine goesL_ (some 28) rfl rfl Try.func25 (by kernel_rfl) rfl #[.agg #[.int .i64 ((rd_T54 l0 x3_2).f0), .int .i64 ((rd_T54 l0 x3_2).f1)]] rfl (by (try simp only [List.map_toArray, List.map_cons, List.map_nil]); first | done | rfl | (simp only [List.length_drop, List.length_take]; rfl)) ?_; (with_reducible refine (headgateref22_takes.calls k2 ((rd_T54 l0 x3_2).f0) ((rd_T54 l0 x3_2).f1) t114 _ A7.out).mono ?_); rintro e w9 ⟨rfl, hb⟩; refine ⟨_, rfl, ?_⟩; have n0_ := Aside0.mk (below_step (by repeat (first | (with_reducible first | exact HB.out | apply below_alloc | apply pw_below_drewN | apply below_drew1) | exact HB.out)) hb); clear HB; have HB := n0_; clear n0_; (try clear hb); (try clear hb2); (try clear hk); (try clear hi)))
                  go_ret
                  exact ⟨by first | rfl | (simp [errW_none, errW_some] <;> rfl) | (simp [*, errW_none, errW_some] <;> rfl), by repeat (first | (with_reducible first | exact HB.out | apply below_alloc | apply pw_below_drewN | apply below_drew1) | exact HB.out)⟩
                · rw [if_neg c8] at H
                  have c8b0 : decide (t114 < 0) = false := decide_eq_false c8
                  clear c8
                  replace H := Option.bind_eq_some_iff.mp H
                  obtain ⟨t116, A100, H⟩ := H
                  replace H : (if t116 = true then (if ((rd_T54 l0 x3_2).f1) ≤ x3_2 then (some false) else (if ((rd_T54 l0 x3_2).f1) > (l0.length : Int) then (some false) else (headgateref22_May.l0 k2 l0 (wrap64 (x3_2 + 1))))) else (headgateref22_May.l0 k2 l0 (wrap64 (x3_2 + 1)))) = some r := H
                  have A10 := Aside0.mk A100
                  clear A100
                  by_cases c11 : t116 = true
                  · subst c11
                    have H1 : (if ((rd_T54 l0 x3_2).f1) ≤ x3_2 then (some false) else (if ((rd_T54 l0 x3_2).f1) > (l0.length : Int) then (some false) else (headgateref22_May.l0 k2 l0 (wrap64 (x3_2 + 1))))) = some r := by rw [if_pos rfl] at H; exact H
                    clear H
                    have H := H1
                    clear H1
                    by_cases c12 : ((rd_T54 l0 x3_2).f1) ≤ x3_2
                    · rw [if_pos c12] at H
                      have c12b0 : decide (((rd_T54 l0 x3_2).f1) ≤ x3_2) = true := decide_eq_true c12
                      clear c12
                      obtain rfl := Option.some.inj H
                      have p113 : 0 ≤ (x3_2 : Int) := of_decide_eq_true (by first | (with_reducible assumption) | assumption)
                      have q113 : x3_2 < (l0.length : Int) := of_decide_eq_true (by first | (with_reducible assumption) | assumption)
                      obtain ⟨ad113, e113, hx113_0, hx113_1⟩ := at_T54 HR0.out x3_2 p113 q113
                      cases e113
                      replace hx113_0 := (HB.out.cell (World.block_lt_of_cell? w _ hx113_0)).trans hx113_0
                      replace hx113_1 := (HB.out.cell (World.block_lt_of_cell? w _ hx113_1)).trans hx113_1
                      replace p113 := eq_true p113
                      replace q113 := eq_true q113
                      go_wp2_with (first | ((with_reducible refine gate_callee (f := 25) rfl ?_); refine goesL_ (some 28) rfl rfl Try.func25 (by kernel_rfl) rfl #[.agg #[.int .i64 ((rd_T54 l0 x3_2).f0), .int .i64 ((rd_T54 l0 x3_2).f1)]] rfl (by (try simp only [List.map_toArray, List.map_cons, List.map_nil]); first | done | rfl | (simp only [List.length_drop, List.length_take]; rfl)) ?_; (with_reducible refine (headgateref22_takes.calls k2 ((rd_T54 l0 x3_2).f0) ((rd_T54 l0 x3_2).f1) t114 _ A7.out).mono ?_); rintro e w13 ⟨rfl, hb⟩; refine ⟨_, rfl, ?_⟩; have n0_ := Aside0.mk (below_step (by repeat (first | (with_reducible first | exact HB.out | apply below_alloc | apply pw_below_drewN | apply below_drew1) | exact HB.out)) hb); clear HB; have HB := n0_; clear n0_; (try clear hb); (try clear hb2); (try clear hk); (try clear hi); have p115 : 0 ≤ (x3_2 : Int) := of_decide_eq_true (by first | (with_reducible assumption) | assumption); have q115 : x3_2 < (l0.length : Int) := of_decide_eq_true (by first | (with_reducible assumption) | assumption); obtain ⟨ad115, e115, hx115_0, hx115_1⟩ := at_T54 HR0.out x3_2 p115 q115; obtain rfl : ad113 = ad115 := (by injection e115); replace hx115_0 := (HB.out.cell (World.block_lt_of_cell? w _ hx115_0)).trans hx115_0; replace hx115_1 := (HB.out.cell (World.block_lt_of_cell? w _ hx115_1)).trans hx115_1; replace p115 := eq_true p115; replace q115 := eq_true q115) | (go_at_call 26; (with_reducible refine (headgateref22_jumps.calls ((rd_T54 l0 x3_2).f0) ((rd_T54 l0 x3_2).f1) true _ A10.out).mono ?_); rintro e w14 ⟨rfl, hb⟩; have n0_ := Aside0.mk (below_step (by repeat (first | (with_reducible first | exact HB.out | apply below_alloc | apply pw_below_drewN | apply below_drew1) | exact HB.out)) hb); clear HB; have HB := n0_; clear n0_; (try clear hb); (try clear hb2); (try clear hk); (try clear hi); have p117 : 0 ≤ (x3_2 : Int) := of_decide_eq_true (by first | (with_reducible assumption) | assumption); have q117 : x3_2 < (l0.length : Int) := of_decide_eq_true (by first | (with_reducible assumption) | assumption); obtain ⟨ad117, e117, hx117_0, hx117_1⟩ := at_T54 HR0.out x3_2 p117 q117; obtain rfl : ad113 = ad117 := (by injection e117); replace hx117_0 := (HB.out.cell (World.block_lt_of_cell? w _ hx117_0)).trans hx117_0; replace hx117_1 := (HB.out.cell (World.block_lt_of_cell? w _ hx117_1)).trans hx117_1; replace p117 := eq_true p117; replace q117 := eq_true q117))
                      go_ret
                      exact ⟨by first | rfl | (simp [errW_none, errW_some] <;> rfl) | (simp [*, errW_none, errW_some] <;> rfl), by repeat (first | (with_reducible first | exact HB.out | apply below_alloc | apply pw_below_drewN | apply below_drew1) | exact HB.out)⟩
                    · rw [if_neg c12] at H
                      have c12b0 : decide (((rd_T54 l0 x3_2).f1) ≤ x3_2) = false := decide_eq_false c12
                      clear c12
                      by_cases c15 : ((rd_T54 l0 x3_2).f1) > (l0.length : Int)
                      · rw [if_pos c15] at H
                        have c15b0 : decide ((l0.length : Int) < ((rd_T54 l0 x3_2).f1)) = true := decide_eq_true c15
                        clear c15
                        obtain rfl := Option.some.inj H
                        have p113 : 0 ≤ (x3_2 : Int) := of_decide_eq_true (by first | (with_reducible assumption) | assumption)
                        have q113 : x3_2 < (l0.length : Int) := of_decide_eq_true (by first | (with_reducible assumption) | assumption)
                        obtain ⟨ad113, e113, hx113_0, hx113_1⟩ := at_T54 HR0.out x3_2 p113 q113
                        cases e113
                        replace hx113_0 := (HB.out.cell (World.block_lt_of_cell? w _ hx113_0)).trans hx113_0
                        replace hx113_1 := (HB.out.cell (World.block_lt_of_cell? w _ hx113_1)).trans hx113_1
                        replace p113 := eq_true p113
                        replace q113 := eq_true q113
                        go_wp2_with (first | ((with_reducible refine gate_callee (f := 25) rfl ?_); refine goesL_ (some 28) rfl rfl Try.func25 (by kernel_rfl) rfl #[.agg #[.int .i64 ((rd_T54 l0 x3_2).f0), .int .i64 ((rd_T54 l0 x3_2).f1)]] rfl (by (try simp only [List.map_toArray, List.map_cons, List.map_nil]); first | done | rfl | (simp only [List.length_drop, List.length_take]; rfl)) ?_; (with_reducible refine (headgateref22_takes.calls k2 ((rd_T54 l0 x3_2).f0) ((rd_T54 l0 x3_2).f1) t114 _ A7.out).mono ?_); rintro e w16 ⟨rfl, hb⟩; refine ⟨_, rfl, ?_⟩; have n0_ := Aside0.mk (below_step (by repeat (first | (with_reducible first | exact HB.out | apply below_alloc | apply pw_below_drewN | apply below_drew1) | exact HB.out)) hb); clear HB; have HB := n0_; clear n0_; (try clear hb); (try clear hb2); (try clear hk); (try clear hi); have p115 : 0 ≤ (x3_2 : Int) := of_decide_eq_true (by first | (with_reducible assumption) | assumption); have q115 : x3_2 < (l0.length : Int) := of_decide_eq_true (by first | (with_reducible assumption) | assumption); obtain ⟨ad115, e115, hx115_0, hx115_1⟩ := at_T54 HR0.out x3_2 p115 q115; obtain rfl : ad113 = ad115 := (by injection e115); replace hx115_0 := (HB.out.cell (World.block_lt_of_cell? w _ hx115_0)).trans hx115_0; replace hx115_1 := (HB.out.cell (World.block_lt_of_cell? w _ hx115_1)).trans hx115_1; replace p115 := eq_true p115; replace q115 := eq_true q115) | (go_at_call 26; (with_reducible refine (headgateref22_jumps.calls ((rd_T54 l0 x3_2).f0) ((rd_T54 l0 x3_2).f1) true _ A10.out).mono ?_); rintro e w17 ⟨rfl, hb⟩; have n0_ := Aside0.mk (below_step (by repeat (first | (with_reducible first | exact HB.out | apply below_alloc | apply pw_below_drewN | apply below_drew1) | exact HB.out)) hb); clear HB; have HB := n0_; clear n0_; (try clear hb); (try clear hb2); (try clear hk); (try clear hi); have p117 : 0 ≤ (x3_2 : Int) := of_decide_eq_true (by first | (with_reducible assumption) | assumption); have q117 : x3_2 < (l0.length : Int) := of_decide_eq_true (by first | (with_reducible assumption) | assumption); obtain ⟨ad117, e117, hx117_0, hx117_1⟩ := at_T54 HR0.out x3_2 p117 q117; obtain rfl : ad113 = ad117 := (by injection e117); replace hx117_0 := (HB.out.cell (World.block_lt_of_cell? w _ hx117_0)).trans hx117_0; replace hx117_1 := (HB.out.cell (World.block_lt_of_cell? w _ hx117_1)).trans hx117_1; replace p117 := eq_true p117; replace q117 := eq_true q117; have p118 : 0 ≤ (x3_2 : Int) := of_decide_eq_true (by first | (with_reducible assumption) | assumption); have q118 : x3_2 < (l0.length : Int) := of_decide_eq_true (by first | (with_reducible assumption) | assumption); obtain ⟨ad118, e118, hx118_0, hx118_1⟩ := at_T54 HR0.out x3_2 p118 q118; obtain rfl : ad113 = ad118 := (by injection e118); replace hx118_0 := (HB.out.cell (World.block_lt_of_cell? w _ hx118_0)).trans hx118_0; replace hx118_1 := (HB.out.cell (World.block_lt_of_cell? w _ hx118_1)).trans hx118_1; replace p118 := eq_true p118; replace q118 := eq_true q118))
                        go_ret
                        exact ⟨by first | rfl | (simp [errW_none, errW_some] <;> rfl) | (simp [*, errW_none, errW_some] <;> rfl), by repeat (first | (with_reducible first | exact HB.out | apply below_alloc | apply pw_below_drewN | apply below_drew1) | exact HB.out)⟩
                      · rw [if_neg c15] at H
                        have c15b0 : decide ((l0.length : Int) < ((rd_T54 l0 x3_2).f1)) = false := decide_eq_false c15
                        clear c15
                        have H' := Aside0.mk H
                        clear H
                        have p113 : 0 ≤ (x3_2 : Int) := of_decide_eq_true (by first | (with_reducible assumption) | assumption)
                        have q113 : x3_2 < (l0.length : Int) := of_decide_eq_true (by first | (with_reducible assumption) | assumption)
                        obtain ⟨ad113, e113, hx113_0, hx113_1⟩ := at_T54 HR0.out x3_2 p113 q113
                        cases e113
                        replace hx113_0 := (HB.out.cell (World.block_lt_of_cell? w _ hx113_0)).trans hx113_0
                        replace hx113_1 := (HB.out.cell (World.block_lt_of_cell? w _ hx113_1)).trans hx113_1
                        replace p113 := eq_true p113
                        replace q113 := eq_true q113
                        go_wp2_with (first | ((with_reducible refine gate_callee (f := 25) rfl ?_); refine goesL_ (some 28) rfl rfl Try.func25 (by kernel_rfl) rfl #[.agg #[.int .i64 ((rd_T54 l0 x3_2).f0), .int .i64 ((rd_T54 l0 x3_2).f1)]] rfl (by (try simp only [List.map_toArray, List.map_cons, List.map_nil]); first | done | rfl | (simp only [List.length_drop, List.length_take]; rfl)) ?_; (with_reducible refine (headgateref22_takes.calls k2 ((rd_T54 l0 x3_2).f0) ((rd_T54 l0 x3_2).f1) t114 _ A7.out).mono ?_); rintro e w18 ⟨rfl, hb⟩; refine ⟨_, rfl, ?_⟩; have n0_ := Aside0.mk (below_step (by repeat (first | (with_reducible first | exact HB.out | apply below_alloc | apply pw_below_drewN | apply below_drew1) | exact HB.out)) hb); clear HB; have HB := n0_; clear n0_; (try clear hb); (try clear hb2); (try clear hk); (try clear hi); have p115 : 0 ≤ (x3_2 : Int) := of_decide_eq_true (by first | (with_reducible assumption) | assumption); have q115 : x3_2 < (l0.length : Int) := of_decide_eq_true (by first | (with_reducible assumption) | assumption); obtain ⟨ad115, e115, hx115_0, hx115_1⟩ := at_T54 HR0.out x3_2 p115 q115; obtain rfl : ad113 = ad115 := (by injection e115); replace hx115_0 := (HB.out.cell (World.block_lt_of_cell? w _ hx115_0)).trans hx115_0; replace hx115_1 := (HB.out.cell (World.block_lt_of_cell? w _ hx115_1)).trans hx115_1; replace p115 := eq_true p115; replace q115 := eq_true q115) | (go_at_call 26; (with_reducible refine (headgateref22_jumps.calls ((rd_T54 l0 x3_2).f0) ((rd_T54 l0 x3_2).f1) true _ A10.out).mono ?_); rintro e w19 ⟨rfl, hb⟩; have n0_ := Aside0.mk (below_step (by repeat (first | (with_reducible first | exact HB.out | apply below_alloc | apply pw_below_drewN | apply below_drew1) | exact HB.out)) hb); clear HB; have HB := n0_; clear n0_; (try clear hb); (try clear hb2); (try clear hk); (try clear hi); have p117 : 0 ≤ (x3_2 : Int) := of_decide_eq_true (by first | (with_reducible assumption) | assumption); have q117 : x3_2 < (l0.length : Int) := of_decide_eq_true (by first | (with_reducible assumption) | assumption); obtain ⟨ad117, e117, hx117_0, hx117_1⟩ := at_T54 HR0.out x3_2 p117 q117; obtain rfl : ad113 = ad117 := (by injection e117); replace hx117_0 := (HB.out.cell (World.block_lt_of_cell? w _ hx117_0)).trans hx117_0; replace hx117_1 := (HB.out.cell (World.block_lt_of_cell? w _ hx117_1)).trans hx117_1; replace p117 := eq_true p117; replace q117 := eq_true q117; have p118 : 0 ≤ (x3_2 : Int) := of_decide_eq_true (by first | (with_reducible assumption) | assumption); have q118 : x3_2 < (l0.length : Int) := of_decide_eq_true (by first | (with_reducible assumption) | assumption); obtain ⟨ad118, e118, hx118_0, hx118_1⟩ := at_T54 HR0.out x3_2 p118 q118; obtain rfl : ad113 = ad118 := (by injection e118); replace hx118_0 := (HB.out.cell (World.block_lt_of_cell? w _ hx118_0)).trans hx118_0; replace hx118_1 := (HB.out.cell (World.block_lt_of_cell? w _ hx118_1)).trans hx118_1; replace p118 := eq_true p118; replace q118 := eq_true q118))
                        go_roundg k2
                        case measure => have := HJ1.out; have := HK2.out; omega
                        case rel => exact ⟨(wrap64 (x3_2 + 1)), (by first | rfl | (simp; done) | (simp [*]; done)), H', ⟨by have := HJ1.out; have := HK2.out; omega⟩, ⟨by repeat (first | (with_reducible first | exact HB.out | apply below_alloc | apply pw_below_drewN | apply below_drew1) | exact HB.out)⟩⟩
                  · replace c11 := Bool.eq_false_iff.mpr c11
                    subst c11
                    have H1 : (headgateref22_May.l0 k2 l0 (wrap64 (x3_2 + 1))) = some r := by rw [if_neg (show ¬ (false = true) by decide)] at H; exact H
                    clear H
                    have H := H1
                    clear H1
                    have H' := Aside0.mk H
                    clear H
                    have p113 : 0 ≤ (x3_2 : Int) := of_decide_eq_true (by first | (with_reducible assumption) | assumption)
                    have q113 : x3_2 < (l0.length : Int) := of_decide_eq_true (by first | (with_reducible assumption) | assumption)
                    obtain ⟨ad113, e113, hx113_0, hx113_1⟩ := at_T54 HR0.out x3_2 p113 q113
                    cases e113
                    replace hx113_0 := (HB.out.cell (World.block_lt_of_cell? w _ hx113_0)).trans hx113_0
                    replace hx113_1 := (HB.out.cell (World.block_lt_of_cell? w _ hx113_1)).trans hx113_1
                    replace p113 := eq_true p113
                    replace q113 := eq_true q113
                    go_wp2_with (first | ((with_reducible refine gate_callee (f := 25) rfl ?_); refine goesL_ (some 28) rfl rfl Try.func25 (by kernel_rfl) rfl #[.agg #[.int .i64 ((rd_T54 l0 x3_2).f0), .int .i64 ((rd_T54 l0 x3_2).f1)]] rfl (by (try simp only [List.map_toArray, List.map_cons, List.map_nil]); first | done | rfl | (simp only [List.length_drop, List.length_take]; rfl)) ?_; (with_reducible refine (headgateref22_takes.calls k2 ((rd_T54 l0 x3_2).f0) ((rd_T54 l0 x3_2).f1) t114 _ A7.out).mono ?_); rintro e w20 ⟨rfl, hb⟩; refine ⟨_, rfl, ?_⟩; have n0_ := Aside0.mk (below_step (by repeat (first | (with_reducible first | exact HB.out | apply below_alloc | apply pw_below_drewN | apply below_drew1) | exact HB.out)) hb); clear HB; have HB := n0_; clear n0_; (try clear hb); (try clear hb2); (try clear hk); (try clear hi); have p115 : 0 ≤ (x3_2 : Int) := of_decide_eq_true (by first | (with_reducible assumption) | assumption); have q115 : x3_2 < (l0.length : Int) := of_decide_eq_true (by first | (with_reducible assumption) | assumption); obtain ⟨ad115, e115, hx115_0, hx115_1⟩ := at_T54 HR0.out x3_2 p115 q115; obtain rfl : ad113 = ad115 := (by injection e115); replace hx115_0 := (HB.out.cell (World.block_lt_of_cell? w _ hx115_0)).trans hx115_0; replace hx115_1 := (HB.out.cell (World.block_lt_of_cell? w _ hx115_1)).trans hx115_1; replace p115 := eq_true p115; replace q115 := eq_true q115) | (go_at_call 26; (with_reducible refine (headgateref22_jumps.calls ((rd_T54 l0 x3_2).f0) ((rd_T54 l0 x3_2).f1) false _ A10.out).mono ?_); rintro e w21 ⟨rfl, hb⟩; have n0_ := Aside0.mk (below_step (by repeat (first | (with_reducible first | exact HB.out | apply below_alloc | apply pw_below_drewN | apply below_drew1) | exact HB.out)) hb); clear HB; have HB := n0_; clear n0_; (try clear hb); (try clear hb2); (try clear hk); (try clear hi)))
                    go_roundg k2
                    case measure => have := HJ1.out; have := HK2.out; omega
                    case rel => exact ⟨(wrap64 (x3_2 + 1)), (by first | rfl | (simp; done) | (simp [*]; done)), H', ⟨by have := HJ1.out; have := HK2.out; omega⟩, ⟨by repeat (first | (with_reducible first | exact HB.out | apply below_alloc | apply pw_below_drewN | apply below_drew1) | exact HB.out)⟩⟩
              · rw [if_neg c6] at H
                exact absurd H (by simp)
            · rw [if_neg c5] at H
              have c5b0 : decide (x3_2 < (l0.length : Int)) = false := decide_eq_false c5
              clear c5
              have H' := Aside0.mk H
              clear H
              go_wp2
              (try simp only [Act.put, List.setIfInBounds_toArray, List.set_cons_zero, List.set_cons_succ])
              go_loopg [4, 5] k2 (fun kq v4 v5 w' => ∃ (x4_3 : List Int) (x5_3 : Int), v5 = .int .i64 x5_3 ∧ Aside0 (headgateref22_May.l1 kq l0 x4_3 x5_3 = some r) ∧ Aside0 (kq ≤ k2) ∧ Aside0 (Kd.R (Kd.int .i64) 3 w' w.heap.size (fun _ => True) v4 x4_3) ∧ Aside0 (Below w.heap.size w w'))
              case atStart => exact ⟨(([] : List Int)), (0), (by first | rfl | (simp; done) | (simp [*]; done)), H', ⟨Nat.le_refl _⟩, ⟨by first | exact Kd.R_nil _ _ _ _ _ | exact Kd.N_nil _ _ _ _ _ | exact Kd.V_nil _ _ _ _ _ | exact Kd.Q_nil _ _ _ _ _ | exact Kd.S_nil _ _ _ _ _⟩, ⟨by repeat (first | (with_reducible first | exact HB.out | apply below_alloc | apply pw_below_drewN | apply below_drew1) | exact HB.out)⟩⟩
              case round =>
                clear H'
                try clear c1
                try clear p1
                try clear q1
                try clear hx1
                try clear c2
                try clear p2
                try clear c3
                try clear c3b0
                try clear c3b1
                try clear c3b2
                try clear c4
                try clear c5
                try clear c5b0
                try clear c6
                try clear c6b0
                try clear p6
                try clear c8
                try clear c8b0
                try clear c11
                try clear p11
                try clear q11
                try clear hx11
                try clear c12
                try clear c12b0
                try clear c15
                try clear c15b0
                try clear hx113_0
                try clear hx113_1
                try clear hx115_0
                try clear hx115_1
                try clear hx117_0
                try clear hx117_1
                try clear hx118_0
                try clear hx118_1
                try clear p113
                try clear p115
                try clear p117
                try clear p118
                try clear p2
                try clear q113
                try clear q115
                try clear q117
                try clear q118
                obtain ⟨x4_3, x5_3, rfl, HA, HK3, HO_4, HB⟩ := hrel
                cases gk with
                | zero => exact absurd HA.out (by simp [headgateref22_May.l1])
                | succ k3 =>
                  have H := HA.out
                  clear HA
                  simp only [headgateref22_May.l1] at H
                  by_cases c22 : x5_3 ≤ (l0.length : Int)
                  · rw [if_pos c22] at H
                    have c22b0 : decide (x5_3 ≤ (l0.length : Int)) = true := decide_eq_true c22
                    clear c22
                    by_cases c23 : x4_3.length < 17592186044416
                    · rw [if_pos c23] at H
                      have LMc23 := Aside0.mk c23
                      clear c23
                      obtain ⟨y119, hy119⟩ : ∃ y_ : List Int, y_ = (x4_3 ++ [(-1)]) := ⟨_, rfl⟩
                      replace H : (headgateref22_May.l1 k3 l0 y119 (wrap64 (x5_3 + 1))) = some r := by first | (rw [hy119]; with_reducible exact H) | (have H2_ := (Option.bind_some _ _).symm.trans H; rw [hy119]; with_reducible exact H2_) | (have H2_ := (Option.bind_some _ _).symm.trans H; with_reducible exact H2_) | with_reducible exact H | (rw [hy119]; exact H) | exact H
                      have Ny119 := Aside0.mk hy119
                      clear hy119
                      have H' := Aside0.mk H
                      clear H
                      go_wp2_with (first | ((with_reducible refine gate_builtin (b := .append) (xs := #[.tmp 62, .tmp 63]) rfl ?_); (try (refine gate_guard (by rfl) ?_; dsimp only)); at_builtin; refine Kd.R_append (Kd.int .i64) (w0 := w) w.heap.size rfl (.tmp 62) (.tmp 63) 49 3 (.int .i64 0) 8 rfl Try.underlying49 info3 rfl (by decide) (by omega) u4 x4_3 (-1) [.int .i64 (-1)] (fun _ => True) (fun _ => False) rfl rfl ?aP (fun _ hk => hk.elim) ?aF ?aO ?aB ?aS ?aL ?_; (case aP => exact rfl); (case aB => exact (by repeat (first | (with_reducible first | exact HB.out | apply below_alloc | apply pw_below_drewN | apply below_drew1) | exact HB.out))); (case aF => exact (fun _ _ => trivial)); (case aO => exact (by (with_reducible repeat (first | apply Kd.R_alloc | apply Kd.R_drewN | apply Kd.R_drew)); exact HO_4.out)); (case aS => exact (below_size (by repeat (first | (with_reducible first | exact HB.out | apply below_alloc | apply pw_below_drewN | apply below_drew1) | exact HB.out)))); (case aL => have := LMc23.out; omega); intro v120 w24 ho hb hg hat; rw [← Ny119.out] at ho; have n0_ := Aside0.mk (hb); have n1_ := Aside0.mk (ho); clear HB; clear HO_4; have HB := n0_; have HO121 := n1_; clear n0_ n1_; clear ho hb hg hat))
                      go_roundg k3
                      case measure => have := HJ1.out; have := HK2.out; have := HK3.out; omega
                      case rel => exact ⟨(y119), (wrap64 (x5_3 + 1)), (by first | rfl | (simp; done) | (simp [*]; done)), H', ⟨by have := HJ1.out; have := HK2.out; have := HK3.out; omega⟩, ⟨by (with_reducible repeat (first | apply Kd.R_alloc | apply Kd.R_drewN | apply Kd.R_drew)); exact HO121.out⟩, ⟨by repeat (first | (with_reducible first | exact HB.out | apply below_alloc | apply pw_below_drewN | apply below_drew1) | exact HB.out)⟩⟩
                    · rw [if_neg c23] at H
                      exact absurd H (by simp)
                  · rw [if_neg c22] at H
                    have c22b0 : decide (x5_3 ≤ (l0.length : Int)) = false := decide_eq_false c22
                    clear c22
                    by_cases c25 : 0 < (x4_3.length : Int)
                    · rw [if_pos c25] at H
                      have c25b0 : decide (0 < (x4_3.length : Int)) = true := decide_eq_true c25
                      have c25b1 : decide (0 < x4_3.length) = true := decide_eq_true (by omega)
                      clear c25
                      obtain ⟨y122, hy122⟩ : ∃ y_ : List Int, y_ = (x4_3.set (0 : Int).toNat 0) := ⟨_, rfl⟩
                      replace H : (headgateref22_May.l2 k3 l0 y122 0) = some r := by first | (rw [hy122]; with_reducible exact H) | (have H2_ := (Option.bind_some _ _).symm.trans H; rw [hy122]; with_reducible exact H2_) | (have H2_ := (Option.bind_some _ _).symm.trans H; with_reducible exact H2_) | with_reducible exact H | (rw [hy122]; exact H) | exact H
                      have Ny122 := Aside0.mk hy122
                      clear hy122
                      have H' := Aside0.mk H
                      clear H
                      have p26 : 0 ≤ (0 : Int) := (by omega)
                      have q26 : (0 : Int) < ((x4_3.length : Int) : Int) := of_decide_eq_true (by first | (with_reducible assumption) | assumption)
                      have qi26 : (0 < x4_3.length) = True := eq_true (by omega)
                      obtain ⟨go26, co26, eo26, gb26, gl26, cl26, HG26⟩ := Kd.R_form HO_4.out (by omega)
                      (first | cases eo26 | (injection eo26 with ea_ en_ ec_; (first | subst ea_ | (injection ea_ with ea_; subst ea_)); subst ec_; clear en_))
                      have GB26 := Aside0.mk gb26
                      have GG26 := Aside0.mk HG26
                      clear gb26 gl26 HG26
                      obtain ⟨hx26_0, hf26_0⟩ := Kd.R_celln 0 HO_4.out (0 : Int) p26 q26
                      (try rw [show ((0 : Int)).toNat = 0 from rfl] at hx26_0)
                      (try simp only [Nat.reduceMul, Nat.zero_mul, Nat.zero_add, Nat.reduceAdd] at hx26_0)
                      (try rw [show ((0 : Int)).toNat = 0 from rfl] at hf26_0)
                      (try simp only [Nat.reduceMul, Nat.zero_mul, Nat.zero_add, Nat.reduceAdd] at hf26_0)
                      replace p26 := eq_true p26
                      replace q26 := eq_true q26
                      have HP27 := Kd.R_putg HO_4.out (0 : Int) 0
                      go_wp2_with (first | ((with_reducible refine gate_store (t := 3) (p := 66) rfl ?_); refine store_event (t := 3) (p := 66) (v := ?vo_w28) (w1 := (wr.setCell ⟨go26, (0 : Int).toNat, none⟩ (.int .i64 0))) ?hg ?ho ?hn ?hr ?_; (case ho => rfl); (case hg => rfl); (case hn => rfl); (case hr => first | (go_simp; done) | (go_simp; rfl)); intro w28 hw; have hg : wr.grownBy w28 (some go26) := (by rw [hw]; exact HP27.2); have hp_ : Kd.R (Kd.int .i64) 3 w28 w.heap.size (fun _ => True) (.slice (some ⟨go26, 0, none⟩) x4_3.length co26) y122 := (by rw [hw, Ny122.out]; exact HP27.1); clear HP27; have n0_ := Aside0.mk (hp_); have n1_ := Aside0.mk ((by rw [hw]; exact below_set (HB.out) GB26.out : Below w.heap.size w w28)); clear HO_4; clear HB; have HO_4 := n0_; have HB := n1_; clear n0_ n1_; clear hg hw hp_))
                      (try simp only [Act.put, List.setIfInBounds_toArray, List.set_cons_zero, List.set_cons_succ])
                      go_loopg [6] k3 (fun kq v6 w' => ∃ (x4_4 : List Int) (x6_4 : Int), v6 = .int .i64 x6_4 ∧ Aside0 (headgateref22_May.l2 kq l0 x4_4 x6_4 = some r) ∧ Aside0 (kq ≤ k3) ∧ Aside0 (Kd.R (Kd.int .i64) 3 w' w.heap.size (fun _ => True) (.slice (some ⟨go26, 0, none⟩) x4_3.length co26) x4_4) ∧ Aside0 (Below w.heap.size w w'))
                      case atStart => exact ⟨(y122), (0), (by first | rfl | (simp; done) | (simp [*]; done)), H', ⟨Nat.le_refl _⟩, ⟨by (with_reducible repeat (first | apply Kd.R_alloc | apply Kd.R_drewN | apply Kd.R_drew)); exact HO_4.out⟩, ⟨by repeat (first | (with_reducible first | exact HB.out | apply below_alloc | apply pw_below_drewN | apply below_drew1) | exact HB.out)⟩⟩
                      case round =>
                        clear H'
                        try clear c1
                        try clear p1
                        try clear q1
                        try clear hx1
                        try clear c2
                        try clear p2
                        try clear q2
                        try clear hx2
                        try clear qi2
                        try clear hf2
                        try clear c3
                        try clear c3b0
                        try clear c3b1
                        try clear c3b2
                        try clear c4
                        try clear c5
                        try clear c5b0
                        try clear c6
                        try clear c6b0
                        try clear p6
                        try clear c8
                        try clear c8b0
                        try clear c11
                        try clear p11
                        try clear q11
                        try clear hx11
                        try clear c12
                        try clear c12b0
                        try clear c15
                        try clear c15b0
                        try clear c22
                        try clear c22b0
                        try clear c23
                        try clear c25
                        try clear c25b0
                        try clear c25b1
                        try clear p26
                        try clear q26
                        try clear hx26
                        try clear qi26
                        try clear hf26
                        try clear hx113_0
                        try clear hx113_1
                        try clear hx115_0
                        try clear hx115_1
                        try clear hx117_0
                        try clear hx117_1
                        try clear hx118_0
                        try clear hx118_1
                        try clear hx26_0
                        try clear p1
                        try clear p11
                        try clear p113
                        try clear p115
                        try clear p117
                        try clear p118
                        try clear p2
                        try clear p26
                        try clear p6
                        try clear q1
                        try clear q11
                        try clear q113
                        try clear q115
                        try clear q117
                        try clear q118
                        try clear q26
                        obtain ⟨x4_4, x6_4, rfl, HA, HK4, HO_4, HB⟩ := hrel
                        have hl4_4 := (Kd.R_reads' HO_4.out).1
                        rw [hl4_4] at HO_4
                        (try simp only [hl4_4])
                        cases gk with
                        | zero => exact absurd HA.out (by simp [headgateref22_May.l2])
                        | succ k4 =>
                          have H := HA.out
                          clear HA
                          simp only [headgateref22_May.l2] at H
                          by_cases c29 : x6_4 < (l0.length : Int)
                          · rw [if_pos c29] at H
                            have c29b0 : decide (x6_4 < (l0.length : Int)) = true := decide_eq_true c29
                            clear c29
                            by_cases c30 : 0 ≤ x6_4
                            · rw [if_pos c30] at H
                              have c30b0 : decide (0 ≤ x6_4) = true := decide_eq_true c30
                              clear c30
                              by_cases c31 : x6_4 < (x4_4.length : Int)
                              · rw [if_pos c31] at H
                                have c31b0 : decide (x6_4 < (x4_4.length : Int)) = true := decide_eq_true c31
                                clear c31
                                by_cases c32 : (rd x4_4 x6_4) < 0
                                · rw [if_pos c32] at H
                                  have c32b0 : decide ((rd x4_4 x6_4) < 0) = true := decide_eq_true c32
                                  clear c32
                                  have H' := Aside0.mk H
                                  clear H
                                  have p124 : 0 ≤ (x6_4 : Int) := of_decide_eq_true (by first | (with_reducible assumption) | assumption)
                                  have q124 : x6_4 < (x4_4.length : Int) := of_decide_eq_true (by first | (with_reducible assumption) | assumption)
                                  obtain ⟨ad124, e124, hx124_0⟩ := Kd.at_int (Kd.R_reads' HO_4.out).2.2 x6_4 p124 q124
                                  obtain rfl : (⟨go26, 0, none⟩ : Addr) = ad124 := (by injection e124)
                                  (first | simp only [add_plain] at hx124_0 | simp only [add_at] at hx124_0 | simp only [Addr.add, Nat.zero_add] at hx124_0 | skip)
                                  replace p124 := eq_true p124
                                  replace q124 := eq_true q124
                                  go_wp2
                                  (try simp only [← hl4_4])
                                  go_roundg k4
                                  case measure => have := HJ1.out; have := HK2.out; have := HK3.out; have := HK4.out; omega
                                  case rel => exact ⟨(x4_4), (wrap64 (x6_4 + 1)), (by first | rfl | (simp; done) | (simp [*]; done)), H', ⟨by have := HJ1.out; have := HK2.out; have := HK3.out; have := HK4.out; omega⟩, ⟨by (try simp only [hl4_4]); (with_reducible repeat (first | apply Kd.R_alloc | apply Kd.R_drewN | apply Kd.R_drew)); exact HO_4.out⟩, ⟨by repeat (first | (with_reducible first | exact HB.out | apply below_alloc | apply pw_below_drewN | apply below_drew1) | exact HB.out)⟩⟩
                                · rw [if_neg c32] at H
                                  have c32b0 : decide ((rd x4_4 x6_4) < 0) = false := decide_eq_false c32
                                  clear c32
                                  replace H := Option.bind_eq_some_iff.mp H
                                  obtain ⟨t127, A330, H⟩ := H
                                  replace H : (if (rd x4_4 x6_4) < t127 then (some false) else ((headgateref22_takes.f k4 ((rd_T54 l0 x6_4).f0) ((rd_T54 l0 x6_4).f1)).bind fun t130 => ((headgateref22_puts.f ((rd_T54 l0 x6_4).f0) ((rd_T54 l0 x6_4).f1)).bind fun t132 => ((headgateref22_jumps.f ((rd_T54 l0 x6_4).f0) ((rd_T54 l0 x6_4).f1)).bind fun t134 => (if t134 = true then (if ([] : List Int).length < 17592186044416 then (headgateref22_May.j4 k4 l0 x4_4 x6_4 (wrap64 ((wrap64 ((rd x4_4 x6_4) - t130)) + t132)) (([] : List Int) ++ [(rd_T54 l0 x6_4).f1])) else (none)) else (headgateref22_May.j4 k4 l0 x4_4 x6_4 (wrap64 ((wrap64 ((rd x4_4 x6_4) - t130)) + t132)) ([] : List Int))))))) = some r := H
                                  have A33 := Aside0.mk A330
                                  clear A330
                                  by_cases c34 : (rd x4_4 x6_4) < t127
                                  · rw [if_pos c34] at H
                                    have c34b0 : decide ((rd x4_4 x6_4) < t127) = true := decide_eq_true c34
                                    clear c34
                                    obtain rfl := Option.some.inj H
                                    have p124 : 0 ≤ (x6_4 : Int) := of_decide_eq_true (by first | (with_reducible assumption) | assumption)
                                    have q124 : x6_4 < (x4_4.length : Int) := of_decide_eq_true (by first | (with_reducible assumption) | assumption)
                                    obtain ⟨ad124, e124, hx124_0⟩ := Kd.at_int (Kd.R_reads' HO_4.out).2.2 x6_4 p124 q124
                                    obtain rfl : (⟨go26, 0, none⟩ : Addr) = ad124 := (by injection e124)
                                    (first | simp only [add_plain] at hx124_0 | simp only [add_at] at hx124_0 | simp only [Addr.add, Nat.zero_add] at hx124_0 | skip)
                                    replace p124 := eq_true p124
                                    replace q124 := eq_true q124
                                    try go_wp2
                                    have n0_ := Aside0.mk (Kd.R_drew HO_4.out)
                                    have n1_ := Aside0.mk (below_drew1 HB.out)
                                    clear HO_4
                                    clear HB
                                    have HO_4 := n0_
                                    have HB := n1_
                                    clear n0_ n1_
                                    have p125 : 0 ≤ (x6_4 : Int) := of_decide_eq_true (by first | (with_reducible assumption) | assumption)
                                    have q125 : x6_4 < (x4_4.length : Int) := of_decide_eq_true (by first | (with_reducible assumption) | assumption)
                                    obtain ⟨ad125, e125, hx125_0⟩ := Kd.at_int (Kd.R_reads' HO_4.out).2.2 x6_4 p125 q125
                                    obtain rfl : (⟨go26, 0, none⟩ : Addr) = ad125 := (by injection e125)
                                    (first | simp only [add_plain] at hx125_0 | simp only [add_at] at hx125_0 | simp only [Addr.add, Nat.zero_add] at hx125_0 | skip)
                                    replace p125 := eq_true p125
                                    replace q125 := eq_true q125
                                    have p126 : 0 ≤ (x6_4 : Int) := of_decide_eq_true (by first | (with_reducible assumption) | assumption)
                                    have q126 : x6_4 < (l0.length : Int) := of_decide_eq_true (by first | (with_reducible assumption) | assumption)
                                    obtain ⟨ad126, e126, hx126_0, hx126_1⟩ := at_T54 HR0.out x6_4 p126 q126
                                    have hw126_1 := hx126_1
                                    have hw126_0 := hx126_0
                                    cases e126
                                    replace hx126_0 := (HB.out.cell (World.block_lt_of_cell? w _ hx126_0)).trans hx126_0
                                    replace hx126_1 := (HB.out.cell (World.block_lt_of_cell? w _ hx126_1)).trans hx126_1
                                    replace p126 := eq_true p126
                                    replace q126 := eq_true q126
                                    refine start_ (n := 10) (S := fun w' => w'.cell? ⟨go26, (x6_4).toNat, none⟩ = some (.int .i64 (rd x4_4 x6_4)) ∧ w'.cell? (ad126.add ((x6_4).toNat * 2)) = some (.int .i64 ((rd_T54 l0 x6_4).f0)) ∧ w'.cell? ⟨(ad126.add ((x6_4).toNat * 2)).block, (ad126.add ((x6_4).toNat * 2)).off + 1, none⟩ = some (.int .i64 ((rd_T54 l0 x6_4).f1))) (ds := []) #[false, false, false, false, false, false, false, false, false, false] (by kernel_rfl) rfl rfl ⟨hx125_0, ((HB.out.cell (World.block_lt_of_cell? w _ hw126_0)).trans hw126_0), ((HB.out.cell (World.block_lt_of_cell? w _ hw126_1)).trans hw126_1)⟩ (fun hHeld => ?_); refine with_tabW headgateref22_May.tab18 headgateref22_May.bits18 (fun HT_ HW_ => ?_)
                                    generalize wr.drew = w35 at HO_4 HB hx125_0 hx126_0 hx126_1 hHeld ⊢
                                    refine pure_ (i := 0) (N := some 78) (v := ?_) (a' := ?_) #[true, false, false, false, false, false, false, false, false, false] rfl rfl (any_of HT_.out (by kernel_rfl)) (fun _ _ _ h => h) (Or.inl ⟨by rfl, ?_⟩) ?_ ?_
                                    rotate_left
                                    · intro w'
                                      go_simp
                                      with_reducible rfl
                                    rotate_left
                                    · simp only [Act.put, List.setIfInBounds_toArray, List.set_cons_zero, List.set_cons_succ, i64_w, i32_w]
                                      rfl
                                    refine pure_ (i := 1) (N := some 79) (v := ?_) (a' := ?_) #[true, true, false, false, false, false, false, false, false, false] rfl rfl (any_of HT_.out (by kernel_rfl)) (fun _ _ _ h => h) (Or.inl ⟨by rfl, ?_⟩) ?_ ?_
                                    rotate_left
                                    · intro w'
                                      go_simp
                                      with_reducible rfl
                                    rotate_left
                                    · simp only [Act.put, List.setIfInBounds_toArray, List.set_cons_zero, List.set_cons_succ, i64_w, i32_w]
                                      rfl
                                    refine pure_ (i := 2) (N := some 80) (v := ?_) (a' := ?_) #[true, true, true, false, false, false, false, false, false, false] rfl rfl (any_of HT_.out (by kernel_rfl)) (fun _ _ _ h => h) (Or.inl ⟨by rfl, ?_⟩) ?_ ?_
                                    rotate_left
                                    · intro w'
                                      go_simp
                                      with_reducible rfl
                                    rotate_left
                                    · simp only [Act.put, List.setIfInBounds_toArray, List.set_cons_zero, List.set_cons_succ, i64_w, i32_w]
                                      rfl
                                    refine pure_ (i := 4) (N := some 82) (v := ?_) (a' := ?_) #[true, true, true, false, true, false, false, false, false, false] rfl rfl (any_of HT_.out (by kernel_rfl)) (fun _ _ _ h => h) (Or.inl ⟨by rfl, ?_⟩) ?_ ?_
                                    rotate_left
                                    · intro w'
                                      go_simp
                                      with_reducible rfl
                                    rotate_left
                                    · simp only [Act.put, List.setIfInBounds_toArray, List.set_cons_zero, List.set_cons_succ, i64_w, i32_w]
                                      rfl
                                    refine pure_ (i := 5) (N := some 83) (v := ?_) (a' := ?_) #[true, true, true, false, true, true, false, false, false, false] rfl rfl (any_of HT_.out (by kernel_rfl)) (fun _ _ _ h => h) (Or.inl ⟨by rfl, ?_⟩) ?_ ?_
                                    rotate_left
                                    · intro w'
                                      go_simp
                                      with_reducible rfl
                                    rotate_left
                                    · simp only [Act.put, List.setIfInBounds_toArray, List.set_cons_zero, List.set_cons_succ, i64_w, i32_w]
                                      rfl
                                    refine pure_ (i := 6) (N := some 84) (v := ?_) (a' := ?_) #[true, true, true, false, true, true, true, false, false, false] rfl rfl (any_of HT_.out (by kernel_rfl)) (fun _ _ _ h => h) (Or.inl ⟨by rfl, ?_⟩) ?_ ?_
                                    rotate_left
                                    · intro w'
                                      go_simp
                                      with_reducible rfl
                                    rotate_left
                                    · simp only [Act.put, List.setIfInBounds_toArray, List.set_cons_zero, List.set_cons_succ, i64_w, i32_w]
                                      rfl
                                    refine take_ (i := 3) (N := some 81) (v := ?_) (a' := ?_) #[true, true, true, true, true, true, true, false, false, false] rfl rfl (take_ofW HT_.out HW_.out (by kernel_rfl)) (fun _ _ _ h => h) (Or.inl ⟨by rfl, ?_⟩) hHeld ?_ ?_
                                    rotate_left
                                    · rintro w' ⟨s0, s1, s2⟩
                                      go_simp
                                      with_reducible rfl
                                    rotate_left
                                    · simp only [Act.put, List.setIfInBounds_toArray, List.set_cons_zero, List.set_cons_succ, i64_w, i32_w]
                                      rfl
                                    refine take_ (i := 7) (N := some 85) (v := ?_) (a' := ?_) #[true, true, true, true, true, true, true, true, false, false] rfl rfl (take_ofW HT_.out HW_.out (by kernel_rfl)) (fun _ _ _ h => h) (Or.inl ⟨by rfl, ?_⟩) hHeld ?_ ?_
                                    rotate_left
                                    · rintro w' ⟨s0, s1, s2⟩
                                      go_simp
                                      with_reducible rfl
                                    rotate_left
                                    · simp only [Act.put, List.setIfInBounds_toArray, List.set_cons_zero, List.set_cons_succ, i64_w, i32_w]
                                      rfl
                                    refine one_ (i := 8) (N := some 86) #[true, true, true, true, true, true, true, true, true, false] rfl rfl (one_of HT_.out (by kernel_rfl)) (by decide) (fun K hK => ?_)
                                    refine goes_ Try.func25 (by kernel_rfl) rfl #[.agg #[.int .i64 ((rd_T54 l0 x6_4).f0), .int .i64 ((rd_T54 l0 x6_4).f1)]] (by rfl) rfl rfl (by (try simp only [List.map_toArray, List.map_cons, List.map_nil]); first | done | rfl | (simp only [List.length_drop, List.length_take]; rfl)) ?_
                                    with_reducible refine (headgateref22_takes.calls k4 ((rd_T54 l0 x6_4).f0) ((rd_T54 l0 x6_4).f1) t127 _ A33.out).mono ?_
                                    rintro e w36 ⟨rfl, hb⟩
                                    have HS0_ := (hb.cell (World.block_lt_of_cell? _ _ (hHeld.1))).trans (hHeld.1)
                                    refine ⟨_, rfl, ?_⟩
                                    have n0_ := Aside0.mk (Kd.R_below (by (with_reducible repeat (first | apply Kd.R_alloc | apply Kd.R_drewN | apply Kd.R_drew)); exact HO_4.out) hb)
                                    have n1_ := Aside0.mk (below_step (by repeat (first | (with_reducible first | exact HB.out | apply below_alloc | apply pw_below_drewN | apply below_drew1) | exact HB.out)) hb)
                                    clear HO_4
                                    clear HB
                                    have HO_4 := n0_
                                    have HB := n1_
                                    clear n0_ n1_
                                    (try clear hb)
                                    (try clear hb2)
                                    (try clear hk)
                                    (try clear hi)
                                    refine hK.out _ _ ⟨HS0_, ((HB.out.cell (World.block_lt_of_cell? w _ hw126_0)).trans hw126_0), ((HB.out.cell (World.block_lt_of_cell? w _ hw126_1)).trans hw126_1)⟩ (fun hHeld => ?_)
                                    clear hK K
                                    refine norm_ (a' := ?_) ?_ ?_
                                    rotate_left
                                    · show Act.put _ (some 86) _ = _
                                      simp only [Act.put, List.setIfInBounds_toArray, List.set_cons_zero, List.set_cons_succ, i64_w, i32_w]
                                      rfl
                                    refine pure_ (i := 9) (N := some 87) (v := ?_) (a' := ?_) #[true, true, true, true, true, true, true, true, true, true] rfl rfl (any_of HT_.out (by kernel_rfl)) (fun _ _ _ h => h) (Or.inl ⟨by rfl, ?_⟩) ?_ ?_
                                    rotate_left
                                    · intro w'
                                      go_simp
                                      with_reducible rfl
                                    rotate_left
                                    · simp only [Act.put, List.setIfInBounds_toArray, List.set_cons_zero, List.set_cons_succ, i64_w, i32_w]
                                      rfl
                                    refine done_ (done_of HT_.out (by kernel_rfl)) ?_
                                    try go_wp2
                                    go_ret
                                    exact ⟨by first | rfl | (simp [errW_none, errW_some] <;> rfl) | (simp [*, errW_none, errW_some] <;> rfl), by repeat (first | (with_reducible first | exact HB.out | apply below_alloc | apply pw_below_drewN | apply below_drew1) | exact HB.out)⟩
                                  · rw [if_neg c34] at H
                                    have c34b0 : decide ((rd x4_4 x6_4) < t127) = false := decide_eq_false c34
                                    clear c34
                                    replace H := Option.bind_eq_some_iff.mp H
                                    obtain ⟨t130, A370, H⟩ := H
                                    replace H : ((headgateref22_puts.f ((rd_T54 l0 x6_4).f0) ((rd_T54 l0 x6_4).f1)).bind fun t132 => ((headgateref22_jumps.f ((rd_T54 l0 x6_4).f0) ((rd_T54 l0 x6_4).f1)).bind fun t134 => (if t134 = true then (if ([] : List Int).length < 17592186044416 then (headgateref22_May.j4 k4 l0 x4_4 x6_4 (wrap64 ((wrap64 ((rd x4_4 x6_4) - t130)) + t132)) (([] : List Int) ++ [(rd_T54 l0 x6_4).f1])) else (none)) else (headgateref22_May.j4 k4 l0 x4_4 x6_4 (wrap64 ((wrap64 ((rd x4_4 x6_4) - t130)) + t132)) ([] : List Int))))) = some r := H
                                    have A37 := Aside0.mk A370
                                    clear A370
                                    replace H := Option.bind_eq_some_iff.mp H
                                    obtain ⟨t132, A380, H⟩ := H
                                    replace H : ((headgateref22_jumps.f ((rd_T54 l0 x6_4).f0) ((rd_T54 l0 x6_4).f1)).bind fun t134 => (if t134 = true then (if ([] : List Int).length < 17592186044416 then (headgateref22_May.j4 k4 l0 x4_4 x6_4 (wrap64 ((wrap64 ((rd x4_4 x6_4) - t130)) + t132)) (([] : List Int) ++ [(rd_T54 l0 x6_4).f1])) else (none)) else (headgateref22_May.j4 k4 l0 x4_4 x6_4 (wrap64 ((wrap64 ((rd x4_4 x6_4) - t130)) + t132)) ([] : List Int)))) = some r := H
                                    have A38 := Aside0.mk A380
                                    clear A380
                                    replace H := Option.bind_eq_some_iff.mp H
                                    obtain ⟨t134, A390, H⟩ := H
                                    replace H : (if t134 = true then (if ([] : List Int).length < 17592186044416 then (headgateref22_May.j4 k4 l0 x4_4 x6_4 (wrap64 ((wrap64 ((rd x4_4 x6_4) - t130)) + t132)) (([] : List Int) ++ [(rd_T54 l0 x6_4).f1])) else (none)) else (headgateref22_May.j4 k4 l0 x4_4 x6_4 (wrap64 ((wrap64 ((rd x4_4 x6_4) - t130)) + t132)) ([] : List Int))) = some r := H
                                    have A39 := Aside0.mk A390
                                    clear A390
                                    have HC40 := Aside0.mk H
                                    clear H
                                    have p124 : 0 ≤ (x6_4 : Int) := of_decide_eq_true (by first | (with_reducible assumption) | assumption)
                                    have q124 : x6_4 < (x4_4.length : Int) := of_decide_eq_true (by first | (with_reducible assumption) | assumption)
                                    obtain ⟨ad124, e124, hx124_0⟩ := Kd.at_int (Kd.R_reads' HO_4.out).2.2 x6_4 p124 q124
                                    obtain rfl : (⟨go26, 0, none⟩ : Addr) = ad124 := (by injection e124)
                                    (first | simp only [add_plain] at hx124_0 | simp only [add_at] at hx124_0 | simp only [Addr.add, Nat.zero_add] at hx124_0 | skip)
                                    replace p124 := eq_true p124
                                    replace q124 := eq_true q124
                                    try go_wp2
                                    have n0_ := Aside0.mk (Kd.R_drew HO_4.out)
                                    have n1_ := Aside0.mk (below_drew1 HB.out)
                                    clear HO_4
                                    clear HB
                                    have HO_4 := n0_
                                    have HB := n1_
                                    clear n0_ n1_
                                    have p125 : 0 ≤ (x6_4 : Int) := of_decide_eq_true (by first | (with_reducible assumption) | assumption)
                                    have q125 : x6_4 < (x4_4.length : Int) := of_decide_eq_true (by first | (with_reducible assumption) | assumption)
                                    obtain ⟨ad125, e125, hx125_0⟩ := Kd.at_int (Kd.R_reads' HO_4.out).2.2 x6_4 p125 q125
                                    obtain rfl : (⟨go26, 0, none⟩ : Addr) = ad125 := (by injection e125)
                                    (first | simp only [add_plain] at hx125_0 | simp only [add_at] at hx125_0 | simp only [Addr.add, Nat.zero_add] at hx125_0 | skip)
                                    replace p125 := eq_true p125
                                    replace q125 := eq_true q125
                                    have p126 : 0 ≤ (x6_4 : Int) := of_decide_eq_true (by first | (with_reducible assumption) | assumption)
                                    have q126 : x6_4 < (l0.length : Int) := of_decide_eq_true (by first | (with_reducible assumption) | assumption)
                                    obtain ⟨ad126, e126, hx126_0, hx126_1⟩ := at_T54 HR0.out x6_4 p126 q126
                                    have hw126_1 := hx126_1
                                    have hw126_0 := hx126_0
                                    cases e126
                                    replace hx126_0 := (HB.out.cell (World.block_lt_of_cell? w _ hx126_0)).trans hx126_0
                                    replace hx126_1 := (HB.out.cell (World.block_lt_of_cell? w _ hx126_1)).trans hx126_1
                                    replace p126 := eq_true p126
                                    replace q126 := eq_true q126
                                    refine start_ (n := 10) (S := fun w' => w'.cell? ⟨go26, (x6_4).toNat, none⟩ = some (.int .i64 (rd x4_4 x6_4)) ∧ w'.cell? (ad126.add ((x6_4).toNat * 2)) = some (.int .i64 ((rd_T54 l0 x6_4).f0)) ∧ w'.cell? ⟨(ad126.add ((x6_4).toNat * 2)).block, (ad126.add ((x6_4).toNat * 2)).off + 1, none⟩ = some (.int .i64 ((rd_T54 l0 x6_4).f1))) (ds := []) #[false, false, false, false, false, false, false, false, false, false] (by kernel_rfl) rfl rfl ⟨hx125_0, ((HB.out.cell (World.block_lt_of_cell? w _ hw126_0)).trans hw126_0), ((HB.out.cell (World.block_lt_of_cell? w _ hw126_1)).trans hw126_1)⟩ (fun hHeld => ?_); refine with_tabW headgateref22_May.tab18 headgateref22_May.bits18 (fun HT_ HW_ => ?_)
                                    generalize wr.drew = w41 at HO_4 HB hx125_0 hx126_0 hx126_1 hHeld ⊢
                                    refine pure_ (i := 0) (N := some 78) (v := ?_) (a' := ?_) #[true, false, false, false, false, false, false, false, false, false] rfl rfl (any_of HT_.out (by kernel_rfl)) (fun _ _ _ h => h) (Or.inl ⟨by rfl, ?_⟩) ?_ ?_
                                    rotate_left
                                    · intro w'
                                      go_simp
                                      with_reducible rfl
                                    rotate_left
                                    · simp only [Act.put, List.setIfInBounds_toArray, List.set_cons_zero, List.set_cons_succ, i64_w, i32_w]
                                      rfl
                                    refine pure_ (i := 1) (N := some 79) (v := ?_) (a' := ?_) #[true, true, false, false, false, false, false, false, false, false] rfl rfl (any_of HT_.out (by kernel_rfl)) (fun _ _ _ h => h) (Or.inl ⟨by rfl, ?_⟩) ?_ ?_
                                    rotate_left
                                    · intro w'
                                      go_simp
                                      with_reducible rfl
                                    rotate_left
                                    · simp only [Act.put, List.setIfInBounds_toArray, List.set_cons_zero, List.set_cons_succ, i64_w, i32_w]
                                      rfl
                                    refine pure_ (i := 2) (N := some 80) (v := ?_) (a' := ?_) #[true, true, true, false, false, false, false, false, false, false] rfl rfl (any_of HT_.out (by kernel_rfl)) (fun _ _ _ h => h) (Or.inl ⟨by rfl, ?_⟩) ?_ ?_
                                    rotate_left
                                    · intro w'
                                      go_simp
                                      with_reducible rfl
                                    rotate_left
                                    · simp only [Act.put, List.setIfInBounds_toArray, List.set_cons_zero, List.set_cons_succ, i64_w, i32_w]
                                      rfl
                                    refine pure_ (i := 4) (N := some 82) (v := ?_) (a' := ?_) #[true, true, true, false, true, false, false, false, false, false] rfl rfl (any_of HT_.out (by kernel_rfl)) (fun _ _ _ h => h) (Or.inl ⟨by rfl, ?_⟩) ?_ ?_
                                    rotate_left
                                    · intro w'
                                      go_simp
                                      with_reducible rfl
                                    rotate_left
                                    · simp only [Act.put, List.setIfInBounds_toArray, List.set_cons_zero, List.set_cons_succ, i64_w, i32_w]
                                      rfl
                                    refine pure_ (i := 5) (N := some 83) (v := ?_) (a' := ?_) #[true, true, true, false, true, true, false, false, false, false] rfl rfl (any_of HT_.out (by kernel_rfl)) (fun _ _ _ h => h) (Or.inl ⟨by rfl, ?_⟩) ?_ ?_
                                    rotate_left
                                    · intro w'
                                      go_simp
                                      with_reducible rfl
                                    rotate_left
                                    · simp only [Act.put, List.setIfInBounds_toArray, List.set_cons_zero, List.set_cons_succ, i64_w, i32_w]
                                      rfl
                                    refine pure_ (i := 6) (N := some 84) (v := ?_) (a' := ?_) #[true, true, true, false, true, true, true, false, false, false] rfl rfl (any_of HT_.out (by kernel_rfl)) (fun _ _ _ h => h) (Or.inl ⟨by rfl, ?_⟩) ?_ ?_
                                    rotate_left
                                    · intro w'
                                      go_simp
                                      with_reducible rfl
                                    rotate_left
                                    · simp only [Act.put, List.setIfInBounds_toArray, List.set_cons_zero, List.set_cons_succ, i64_w, i32_w]
                                      rfl
                                    refine take_ (i := 3) (N := some 81) (v := ?_) (a' := ?_) #[true, true, true, true, true, true, true, false, false, false] rfl rfl (take_ofW HT_.out HW_.out (by kernel_rfl)) (fun _ _ _ h => h) (Or.inl ⟨by rfl, ?_⟩) hHeld ?_ ?_
                                    rotate_left
                                    · rintro w' ⟨s0, s1, s2⟩
                                      go_simp
                                      with_reducible rfl
                                    rotate_left
                                    · simp only [Act.put, List.setIfInBounds_toArray, List.set_cons_zero, List.set_cons_succ, i64_w, i32_w]
                                      rfl
                                    refine take_ (i := 7) (N := some 85) (v := ?_) (a' := ?_) #[true, true, true, true, true, true, true, true, false, false] rfl rfl (take_ofW HT_.out HW_.out (by kernel_rfl)) (fun _ _ _ h => h) (Or.inl ⟨by rfl, ?_⟩) hHeld ?_ ?_
                                    rotate_left
                                    · rintro w' ⟨s0, s1, s2⟩
                                      go_simp
                                      with_reducible rfl
                                    rotate_left
                                    · simp only [Act.put, List.setIfInBounds_toArray, List.set_cons_zero, List.set_cons_succ, i64_w, i32_w]
                                      rfl
                                    refine one_ (i := 8) (N := some 86) #[true, true, true, true, true, true, true, true, true, false] rfl rfl (one_of HT_.out (by kernel_rfl)) (by decide) (fun K hK => ?_)
                                    refine goes_ Try.func25 (by kernel_rfl) rfl #[.agg #[.int .i64 ((rd_T54 l0 x6_4).f0), .int .i64 ((rd_T54 l0 x6_4).f1)]] (by rfl) rfl rfl (by (try simp only [List.map_toArray, List.map_cons, List.map_nil]); first | done | rfl | (simp only [List.length_drop, List.length_take]; rfl)) ?_
                                    with_reducible refine (headgateref22_takes.calls k4 ((rd_T54 l0 x6_4).f0) ((rd_T54 l0 x6_4).f1) t127 _ A33.out).mono ?_
                                    rintro e w42 ⟨rfl, hb⟩
                                    have HS0_ := (hb.cell (World.block_lt_of_cell? _ _ (hHeld.1))).trans (hHeld.1)
                                    refine ⟨_, rfl, ?_⟩
                                    have n0_ := Aside0.mk (Kd.R_below (by (with_reducible repeat (first | apply Kd.R_alloc | apply Kd.R_drewN | apply Kd.R_drew)); exact HO_4.out) hb)
                                    have n1_ := Aside0.mk (below_step (by repeat (first | (with_reducible first | exact HB.out | apply below_alloc | apply pw_below_drewN | apply below_drew1) | exact HB.out)) hb)
                                    clear HO_4
                                    clear HB
                                    have HO_4 := n0_
                                    have HB := n1_
                                    clear n0_ n1_
                                    (try clear hb)
                                    (try clear hb2)
                                    (try clear hk)
                                    (try clear hi)
                                    refine hK.out _ _ ⟨HS0_, ((HB.out.cell (World.block_lt_of_cell? w _ hw126_0)).trans hw126_0), ((HB.out.cell (World.block_lt_of_cell? w _ hw126_1)).trans hw126_1)⟩ (fun hHeld => ?_)
                                    clear hK K
                                    refine norm_ (a' := ?_) ?_ ?_
                                    rotate_left
                                    · show Act.put _ (some 86) _ = _
                                      simp only [Act.put, List.setIfInBounds_toArray, List.set_cons_zero, List.set_cons_succ, i64_w, i32_w]
                                      rfl
                                    refine pure_ (i := 9) (N := some 87) (v := ?_) (a' := ?_) #[true, true, true, true, true, true, true, true, true, true] rfl rfl (any_of HT_.out (by kernel_rfl)) (fun _ _ _ h => h) (Or.inl ⟨by rfl, ?_⟩) ?_ ?_
                                    rotate_left
                                    · intro w'
                                      go_simp
                                      with_reducible rfl
                                    rotate_left
                                    · simp only [Act.put, List.setIfInBounds_toArray, List.set_cons_zero, List.set_cons_succ, i64_w, i32_w]
                                      rfl
                                    refine done_ (done_of HT_.out (by kernel_rfl)) ?_
                                    try go_wp2
                                    have n0_ := Aside0.mk (Kd.R_drew HO_4.out)
                                    have n1_ := Aside0.mk (below_drew1 HB.out)
                                    clear HO_4
                                    clear HB
                                    have HO_4 := n0_
                                    have HB := n1_
                                    clear n0_ n1_
                                    have p128 : 0 ≤ (x6_4 : Int) := of_decide_eq_true (by first | (with_reducible assumption) | assumption)
                                    have q128 : x6_4 < (x4_4.length : Int) := of_decide_eq_true (by first | (with_reducible assumption) | assumption)
                                    obtain ⟨ad128, e128, hx128_0⟩ := Kd.at_int (Kd.R_reads' HO_4.out).2.2 x6_4 p128 q128
                                    obtain rfl : (⟨go26, 0, none⟩ : Addr) = ad128 := (by injection e128)
                                    (first | simp only [add_plain] at hx128_0 | simp only [add_at] at hx128_0 | simp only [Addr.add, Nat.zero_add] at hx128_0 | skip)
                                    replace p128 := eq_true p128
                                    replace q128 := eq_true q128
                                    have p129 : 0 ≤ (x6_4 : Int) := of_decide_eq_true (by first | (with_reducible assumption) | assumption)
                                    have q129 : x6_4 < (l0.length : Int) := of_decide_eq_true (by first | (with_reducible assumption) | assumption)
                                    obtain ⟨ad129, e129, hx129_0, hx129_1⟩ := at_T54 HR0.out x6_4 p129 q129
                                    have hw129_1 := hx129_1
                                    have hw129_0 := hx129_0
                                    obtain rfl : ad126 = ad129 := (by injection e129)
                                    replace hx129_0 := (HB.out.cell (World.block_lt_of_cell? w _ hx129_0)).trans hx129_0
                                    replace hx129_1 := (HB.out.cell (World.block_lt_of_cell? w _ hx129_1)).trans hx129_1
                                    replace p129 := eq_true p129
                                    replace q129 := eq_true q129
                                    have p131 : 0 ≤ (x6_4 : Int) := of_decide_eq_true (by first | (with_reducible assumption) | assumption)
                                    have q131 : x6_4 < (l0.length : Int) := of_decide_eq_true (by first | (with_reducible assumption) | assumption)
                                    obtain ⟨ad131, e131, hx131_0, hx131_1⟩ := at_T54 HR0.out x6_4 p131 q131
                                    have hw131_1 := hx131_1
                                    have hw131_0 := hx131_0
                                    obtain rfl : ad126 = ad131 := (by injection e131)
                                    replace hx131_0 := (HB.out.cell (World.block_lt_of_cell? w _ hx131_0)).trans hx131_0
                                    replace hx131_1 := (HB.out.cell (World.block_lt_of_cell? w _ hx131_1)).trans hx131_1
                                    replace p131 := eq_true p131
                                    replace q131 := eq_true q131
                                    refine start_ (n := 17) (S := fun w' => w'.cell? ⟨go26, (x6_4).toNat, none⟩ = some (.int .i64 (rd x4_4 x6_4)) ∧ w'.cell? (ad126.add ((x6_4).toNat * 2)) = some (.int .i64 ((rd_T54 l0 x6_4).f0)) ∧ w'.cell? ⟨(ad126.add ((x6_4).toNat * 2)).block, (ad126.add ((x6_4).toNat * 2)).off + 1, none⟩ = some (.int .i64 ((rd_T54 l0 x6_4).f1)) ∧ w'.cell? (ad126.add ((x6_4).toNat * 2)) = some (.int .i64 ((rd_T54 l0 x6_4).f0)) ∧ w'.cell? ⟨(ad126.add ((x6_4).toNat * 2)).block, (ad126.add ((x6_4).toNat * 2)).off + 1, none⟩ = some (.int .i64 ((rd_T54 l0 x6_4).f1))) (ds := []) #[false, false, false, false, false, false, false, false, false, false, false, false, false, false, false, false, false] (by kernel_rfl) rfl rfl ⟨hx128_0, ((HB.out.cell (World.block_lt_of_cell? w _ hw129_0)).trans hw129_0), ((HB.out.cell (World.block_lt_of_cell? w _ hw129_1)).trans hw129_1), ((HB.out.cell (World.block_lt_of_cell? w _ hw131_0)).trans hw131_0), ((HB.out.cell (World.block_lt_of_cell? w _ hw131_1)).trans hw131_1)⟩ (fun hHeld => ?_); refine with_tabW headgateref22_May.tab20 headgateref22_May.bits20 (fun HT_ HW_ => ?_)
                                    generalize w42.drew = w43 at HO_4 HB hx128_0 hx129_0 hx129_1 hx131_0 hx131_1 hHeld ⊢
                                    refine pure_ (i := 0) (N := some 88) (v := ?_) (a' := ?_) #[true, false, false, false, false, false, false, false, false, false, false, false, false, false, false, false, false] rfl rfl (any_of HT_.out (by kernel_rfl)) (fun _ _ _ h => h) (Or.inl ⟨by rfl, ?_⟩) ?_ ?_
                                    rotate_left
                                    · intro w'
                                      go_simp
                                      with_reducible rfl
                                    rotate_left
                                    · simp only [Act.put, List.setIfInBounds_toArray, List.set_cons_zero, List.set_cons_succ, i64_w, i32_w]
                                      rfl
                                    refine pure_ (i := 1) (N := some 89) (v := ?_) (a' := ?_) #[true, true, false, false, false, false, false, false, false, false, false, false, false, false, false, false, false] rfl rfl (any_of HT_.out (by kernel_rfl)) (fun _ _ _ h => h) (Or.inl ⟨by rfl, ?_⟩) ?_ ?_
                                    rotate_left
                                    · intro w'
                                      go_simp
                                      with_reducible rfl
                                    rotate_left
                                    · simp only [Act.put, List.setIfInBounds_toArray, List.set_cons_zero, List.set_cons_succ, i64_w, i32_w]
                                      rfl
                                    refine pure_ (i := 2) (N := some 90) (v := ?_) (a' := ?_) #[true, true, true, false, false, false, false, false, false, false, false, false, false, false, false, false, false] rfl rfl (any_of HT_.out (by kernel_rfl)) (fun _ _ _ h => h) (Or.inl ⟨by rfl, ?_⟩) ?_ ?_
                                    rotate_left
                                    · intro w'
                                      go_simp
                                      with_reducible rfl
                                    rotate_left
                                    · simp only [Act.put, List.setIfInBounds_toArray, List.set_cons_zero, List.set_cons_succ, i64_w, i32_w]
                                      rfl
                                    refine pure_ (i := 4) (N := some 92) (v := ?_) (a' := ?_) #[true, true, true, false, true, false, false, false, false, false, false, false, false, false, false, false, false] rfl rfl (any_of HT_.out (by kernel_rfl)) (fun _ _ _ h => h) (Or.inl ⟨by rfl, ?_⟩) ?_ ?_
                                    rotate_left
                                    · intro w'
                                      go_simp
                                      with_reducible rfl
                                    rotate_left
                                    · simp only [Act.put, List.setIfInBounds_toArray, List.set_cons_zero, List.set_cons_succ, i64_w, i32_w]
                                      rfl
                                    refine pure_ (i := 5) (N := some 93) (v := ?_) (a' := ?_) #[true, true, true, false, true, true, false, false, false, false, false, false, false, false, false, false, false] rfl rfl (any_of HT_.out (by kernel_rfl)) (fun _ _ _ h => h) (Or.inl ⟨by rfl, ?_⟩) ?_ ?_
                                    rotate_left
                                    · intro w'
                                      go_simp
                                      with_reducible rfl
                                    rotate_left
                                    · simp only [Act.put, List.setIfInBounds_toArray, List.set_cons_zero, List.set_cons_succ, i64_w, i32_w]
                                      rfl
                                    refine pure_ (i := 6) (N := some 94) (v := ?_) (a' := ?_) #[true, true, true, false, true, true, true, false, false, false, false, false, false, false, false, false, false] rfl rfl (any_of HT_.out (by kernel_rfl)) (fun _ _ _ h => h) (Or.inl ⟨by rfl, ?_⟩) ?_ ?_
                                    rotate_left
                                    · intro w'
                                      go_simp
                                      with_reducible rfl
                                    rotate_left
                                    · simp only [Act.put, List.setIfInBounds_toArray, List.set_cons_zero, List.set_cons_succ, i64_w, i32_w]
                                      rfl
                                    refine pure_ (i := 10) (N := some 98) (v := ?_) (a' := ?_) #[true, true, true, false, true, true, true, false, false, false, true, false, false, false, false, false, false] rfl rfl (any_of HT_.out (by kernel_rfl)) (fun _ _ _ h => h) (Or.inl ⟨by rfl, ?_⟩) ?_ ?_
                                    rotate_left
                                    · intro w'
                                      go_simp
                                      with_reducible rfl
                                    rotate_left
                                    · simp only [Act.put, List.setIfInBounds_toArray, List.set_cons_zero, List.set_cons_succ, i64_w, i32_w]
                                      rfl
                                    refine pure_ (i := 11) (N := some 99) (v := ?_) (a' := ?_) #[true, true, true, false, true, true, true, false, false, false, true, true, false, false, false, false, false] rfl rfl (any_of HT_.out (by kernel_rfl)) (fun _ _ _ h => h) (Or.inl ⟨by rfl, ?_⟩) ?_ ?_
                                    rotate_left
                                    · intro w'
                                      go_simp
                                      with_reducible rfl
                                    rotate_left
                                    · simp only [Act.put, List.setIfInBounds_toArray, List.set_cons_zero, List.set_cons_succ, i64_w, i32_w]
                                      rfl
                                    refine pure_ (i := 12) (N := some 100) (v := ?_) (a' := ?_) #[true, true, true, false, true, true, true, false, false, false, true, true, true, false, false, false, false] rfl rfl (any_of HT_.out (by kernel_rfl)) (fun _ _ _ h => h) (Or.inl ⟨by rfl, ?_⟩) ?_ ?_
                                    rotate_left
                                    · intro w'
                                      go_simp
                                      with_reducible rfl
                                    rotate_left
                                    · simp only [Act.put, List.setIfInBounds_toArray, List.set_cons_zero, List.set_cons_succ, i64_w, i32_w]
                                      rfl
                                    refine take_ (i := 3) (N := some 91) (v := ?_) (a' := ?_) #[true, true, true, true, true, true, true, false, false, false, true, true, true, false, false, false, false] rfl rfl (take_ofW HT_.out HW_.out (by kernel_rfl)) (fun _ _ _ h => h) (Or.inl ⟨by rfl, ?_⟩) hHeld ?_ ?_
                                    rotate_left
                                    · rintro w' ⟨s0, s1, s2, s3, s4⟩
                                      go_simp
                                      with_reducible rfl
                                    rotate_left
                                    · simp only [Act.put, List.setIfInBounds_toArray, List.set_cons_zero, List.set_cons_succ, i64_w, i32_w]
                                      rfl
                                    refine take_ (i := 7) (N := some 95) (v := ?_) (a' := ?_) #[true, true, true, true, true, true, true, true, false, false, true, true, true, false, false, false, false] rfl rfl (take_ofW HT_.out HW_.out (by kernel_rfl)) (fun _ _ _ h => h) (Or.inl ⟨by rfl, ?_⟩) hHeld ?_ ?_
                                    rotate_left
                                    · rintro w' ⟨s0, s1, s2, s3, s4⟩
                                      go_simp
                                      with_reducible rfl
                                    rotate_left
                                    · simp only [Act.put, List.setIfInBounds_toArray, List.set_cons_zero, List.set_cons_succ, i64_w, i32_w]
                                      rfl
                                    refine take_ (i := 13) (N := some 101) (v := ?_) (a' := ?_) #[true, true, true, true, true, true, true, true, false, false, true, true, true, true, false, false, false] rfl rfl (take_ofW HT_.out HW_.out (by kernel_rfl)) (fun _ _ _ h => h) (Or.inl ⟨by rfl, ?_⟩) hHeld ?_ ?_
                                    rotate_left
                                    · rintro w' ⟨s0, s1, s2, s3, s4⟩
                                      go_simp
                                      with_reducible rfl
                                    rotate_left
                                    · simp only [Act.put, List.setIfInBounds_toArray, List.set_cons_zero, List.set_cons_succ, i64_w, i32_w]
                                      rfl
                                    refine one_ (i := 8) (N := some 96) #[true, true, true, true, true, true, true, true, true, false, true, true, true, true, false, false, false] rfl rfl (one_of HT_.out (by kernel_rfl)) (by decide) (fun K hK => ?_)
                                    refine goes_ Try.func25 (by kernel_rfl) rfl #[.agg #[.int .i64 ((rd_T54 l0 x6_4).f0), .int .i64 ((rd_T54 l0 x6_4).f1)]] (by rfl) rfl rfl (by (try simp only [List.map_toArray, List.map_cons, List.map_nil]); first | done | rfl | (simp only [List.length_drop, List.length_take]; rfl)) ?_
                                    with_reducible refine (headgateref22_takes.calls k4 ((rd_T54 l0 x6_4).f0) ((rd_T54 l0 x6_4).f1) t130 _ A37.out).mono ?_
                                    rintro e w44 ⟨rfl, hb⟩
                                    have HS0_ := (hb.cell (World.block_lt_of_cell? _ _ (hHeld.1))).trans (hHeld.1)
                                    refine ⟨_, rfl, ?_⟩
                                    have n0_ := Aside0.mk (Kd.R_below (by (with_reducible repeat (first | apply Kd.R_alloc | apply Kd.R_drewN | apply Kd.R_drew)); exact HO_4.out) hb)
                                    have n1_ := Aside0.mk (below_step (by repeat (first | (with_reducible first | exact HB.out | apply below_alloc | apply pw_below_drewN | apply below_drew1) | exact HB.out)) hb)
                                    clear HO_4
                                    clear HB
                                    have HO_4 := n0_
                                    have HB := n1_
                                    clear n0_ n1_
                                    (try clear hb)
                                    (try clear hb2)
                                    (try clear hk)
                                    (try clear hi)
                                    refine hK.out _ _ ⟨HS0_, ((HB.out.cell (World.block_lt_of_cell? w _ hw129_0)).trans hw129_0), ((HB.out.cell (World.block_lt_of_cell? w _ hw129_1)).trans hw129_1), ((HB.out.cell (World.block_lt_of_cell? w _ hw131_0)).trans hw131_0), ((HB.out.cell (World.block_lt_of_cell? w _ hw131_1)).trans hw131_1)⟩ (fun hHeld => ?_)
                                    clear hK K
                                    refine norm_ (a' := ?_) ?_ ?_
                                    rotate_left
                                    · show Act.put _ (some 96) _ = _
                                      simp only [Act.put, List.setIfInBounds_toArray, List.set_cons_zero, List.set_cons_succ, i64_w, i32_w]
                                      rfl
                                    refine pure_ (i := 9) (N := some 97) (v := ?_) (a' := ?_) #[true, true, true, true, true, true, true, true, true, true, true, true, true, true, false, false, false] rfl rfl (any_of HT_.out (by kernel_rfl)) (fun _ _ _ h => h) (Or.inl ⟨by rfl, ?_⟩) ?_ ?_
                                    rotate_left
                                    · intro w'
                                      go_simp
                                      with_reducible rfl
                                    rotate_left
                                    · simp only [Act.put, List.setIfInBounds_toArray, List.set_cons_zero, List.set_cons_succ, i64_w, i32_w]
                                      rfl
                                    refine one_ (i := 14) (N := some 102) #[true, true, true, true, true, true, true, true, true, true, true, true, true, true, true, false, false] rfl rfl (one_of HT_.out (by kernel_rfl)) (by decide) (fun K hK => ?_)
                                    refine goes_ Try.func27 (by kernel_rfl) rfl #[.agg #[.int .i64 ((rd_T54 l0 x6_4).f0), .int .i64 ((rd_T54 l0 x6_4).f1)]] (by rfl) rfl rfl (by (try simp only [List.map_toArray, List.map_cons, List.map_nil]); first | done | rfl | (simp only [List.length_drop, List.length_take]; rfl)) ?_
                                    with_reducible refine (headgateref22_puts.calls ((rd_T54 l0 x6_4).f0) ((rd_T54 l0 x6_4).f1) t132 _ A38.out).mono ?_
                                    rintro e w45 ⟨rfl, hb⟩
                                    have HS0_ := (hb.cell (World.block_lt_of_cell? _ _ (hHeld.1))).trans (hHeld.1)
                                    refine ⟨_, rfl, ?_⟩
                                    have n0_ := Aside0.mk (Kd.R_below (by (with_reducible repeat (first | apply Kd.R_alloc | apply Kd.R_drewN | apply Kd.R_drew)); exact HO_4.out) hb)
                                    have n1_ := Aside0.mk (below_step (by repeat (first | (with_reducible first | exact HB.out | apply below_alloc | apply pw_below_drewN | apply below_drew1) | exact HB.out)) hb)
                                    clear HO_4
                                    clear HB
                                    have HO_4 := n0_
                                    have HB := n1_
                                    clear n0_ n1_
                                    (try clear hb)
                                    (try clear hb2)
                                    (try clear hk)
                                    (try clear hi)
                                    refine hK.out _ _ ⟨HS0_, ((HB.out.cell (World.block_lt_of_cell? w _ hw129_0)).trans hw129_0), ((HB.out.cell (World.block_lt_of_cell? w _ hw129_1)).trans hw129_1), ((HB.out.cell (World.block_lt_of_cell? w _ hw131_0)).trans hw131_0), ((HB.out.cell (World.block_lt_of_cell? w _ hw131_1)).trans hw131_1)⟩ (fun hHeld => ?_)
                                    clear hK K
                                    refine norm_ (a' := ?_) ?_ ?_
                                    rotate_left
                                    · show Act.put _ (some 102) _ = _
                                      simp only [Act.put, List.setIfInBounds_toArray, List.set_cons_zero, List.set_cons_succ, i64_w, i32_w]
                                      rfl
                                    refine pure_ (i := 15) (N := some 103) (v := ?_) (a' := ?_) #[true, true, true, true, true, true, true, true, true, true, true, true, true, true, true, true, false] rfl rfl (any_of HT_.out (by kernel_rfl)) (fun _ _ _ h => h) (Or.inl ⟨by rfl, ?_⟩) ?_ ?_
                                    rotate_left
                                    · intro w'
                                      go_simp
                                      with_reducible rfl
                                    rotate_left
                                    · simp only [Act.put, List.setIfInBounds_toArray, List.set_cons_zero, List.set_cons_succ, i64_w, i32_w]
                                      rfl
                                    refine pure_ (i := 16) (N := some 7) (v := ?_) (a' := ?_) #[true, true, true, true, true, true, true, true, true, true, true, true, true, true, true, true, true] rfl rfl (any_of HT_.out (by kernel_rfl)) (fun _ _ _ h => h) (Or.inl ⟨by rfl, ?_⟩) ?_ ?_
                                    rotate_left
                                    · intro w'
                                      go_simp
                                      with_reducible rfl
                                    rotate_left
                                    · simp only [Act.put, List.setIfInBounds_toArray, List.set_cons_zero, List.set_cons_succ, i64_w, i32_w]
                                      rfl
                                    refine done_ (done_of HT_.out (by kernel_rfl)) ?_
                                    have p133 : 0 ≤ (x6_4 : Int) := of_decide_eq_true (by first | (with_reducible assumption) | assumption)
                                    have q133 : x6_4 < (l0.length : Int) := of_decide_eq_true (by first | (with_reducible assumption) | assumption)
                                    obtain ⟨ad133, e133, hx133_0, hx133_1⟩ := at_T54 HR0.out x6_4 p133 q133
                                    obtain rfl : ad126 = ad133 := (by injection e133)
                                    replace hx133_0 := (HB.out.cell (World.block_lt_of_cell? w _ hx133_0)).trans hx133_0
                                    replace hx133_1 := (HB.out.cell (World.block_lt_of_cell? w _ hx133_1)).trans hx133_1
                                    replace p133 := eq_true p133
                                    replace q133 := eq_true q133
                                    go_upto_if 108 with (first | ((with_reducible refine gate_callee (f := 26) rfl ?_); refine goesL_ (some 108) rfl rfl Try.func26 (by kernel_rfl) rfl #[.agg #[.int .i64 ((rd_T54 l0 x6_4).f0), .int .i64 ((rd_T54 l0 x6_4).f1)]] rfl (by (try simp only [List.map_toArray, List.map_cons, List.map_nil]); first | done | rfl | (simp only [List.length_drop, List.length_take]; rfl)) ?_; (with_reducible refine (headgateref22_jumps.calls ((rd_T54 l0 x6_4).f0) ((rd_T54 l0 x6_4).f1) t134 _ A39.out).mono ?_); rintro e w46 ⟨rfl, hb⟩; refine ⟨_, rfl, ?_⟩; have n0_ := Aside0.mk (Kd.R_below (by (with_reducible repeat (first | apply Kd.R_alloc | apply Kd.R_drewN | apply Kd.R_drew)); exact HO_4.out) hb); have n1_ := Aside0.mk (below_step (by repeat (first | (with_reducible first | exact HB.out | apply below_alloc | apply pw_below_drewN | apply below_drew1) | exact HB.out)) hb); clear HO_4; clear HB; have HO_4 := n0_; have HB := n1_; clear n0_ n1_; (try clear hb); (try clear hb2); (try clear hk); (try clear hi)))
                                    (try simp only [Act.put, List.setIfInBounds_toArray, List.set_cons_zero, List.set_cons_succ])
                                    go_cut [8] (fun v8 wc => ∃ (kq : Nat) (x8_39 : List Int), Aside0 (headgateref22_May.j4 kq l0 x4_4 x6_4 (wrap64 ((wrap64 ((rd x4_4 x6_4) - t130)) + t132)) x8_39 = some r) ∧ Aside0 (kq ≤ k4) ∧ Aside0 (Kd.R (Kd.int .i64) 3 wc w.heap.size (fun k_ => some k_ ≠ (v8 : Value).ownBlock) (.slice (some ⟨go26, 0, none⟩) x4_4.length co26) x4_4) ∧ Aside0 (Kd.R (Kd.int .i64) 3 wc w.heap.size (fun k_ => some k_ ≠ ((.slice (some ⟨go26, 0, none⟩) x4_4.length co26) : Value).ownBlock) v8 x8_39) ∧ Aside0 (Below w.heap.size w wc))
                                    case first =>
                                      have H := HC40.out
                                      clear HC40
                                      by_cases c47 : t134 = true
                                      · subst c47
                                        have H1 : (if ([] : List Int).length < 17592186044416 then (headgateref22_May.j4 k4 l0 x4_4 x6_4 (wrap64 ((wrap64 ((rd x4_4 x6_4) - t130)) + t132)) (([] : List Int) ++ [(rd_T54 l0 x6_4).f1])) else (none)) = some r := by rw [if_pos rfl] at H; exact H
                                        clear H
                                        have H := H1
                                        clear H1
                                        by_cases c48 : ([] : List Int).length < 17592186044416
                                        · rw [if_pos c48] at H
                                          have LMc48 := Aside0.mk c48
                                          clear c48
                                          obtain ⟨y136, hy136⟩ : ∃ y_ : List Int, y_ = (([] : List Int) ++ [(rd_T54 l0 x6_4).f1]) := ⟨_, rfl⟩
                                          replace H : (headgateref22_May.j4 k4 l0 x4_4 x6_4 (wrap64 ((wrap64 ((rd x4_4 x6_4) - t130)) + t132)) y136) = some r := by first | (rw [hy136]; with_reducible exact H) | (have H2_ := (Option.bind_some _ _).symm.trans H; rw [hy136]; with_reducible exact H2_) | (have H2_ := (Option.bind_some _ _).symm.trans H; with_reducible exact H2_) | with_reducible exact H | (rw [hy136]; exact H) | exact H
                                          have Ny136 := Aside0.mk hy136
                                          clear hy136
                                          have H' := Aside0.mk H
                                          clear H
                                          have p135 : 0 ≤ (x6_4 : Int) := of_decide_eq_true (by first | (with_reducible assumption) | assumption)
                                          have q135 : x6_4 < (l0.length : Int) := of_decide_eq_true (by first | (with_reducible assumption) | assumption)
                                          obtain ⟨ad135, e135, hx135_0, hx135_1⟩ := at_T54 HR0.out x6_4 p135 q135
                                          obtain rfl : ad126 = ad135 := (by injection e135)
                                          replace hx135_0 := (HB.out.cell (World.block_lt_of_cell? w _ hx135_0)).trans hx135_0
                                          replace hx135_1 := (HB.out.cell (World.block_lt_of_cell? w _ hx135_1)).trans hx135_1
                                          replace p135 := eq_true p135
                                          replace q135 := eq_true q135
                                          go_wp2_with (first | ((with_reducible refine gate_builtin (b := .append) (xs := #[.tmp 109, .tmp 115]) rfl ?_); (try (refine gate_guard (by rfl) ?_; dsimp only)); at_builtin; refine Kd.R_append (Kd.int .i64) (w0 := w) w.heap.size rfl (.tmp 109) (.tmp 115) 49 3 (.int .i64 0) 8 rfl Try.underlying49 info3 rfl (by decide) (by omega) (.slice none 0 0) ([] : List Int) ((rd_T54 l0 x6_4).f1) [.int .i64 ((rd_T54 l0 x6_4).f1)] (fun k_ => some k_ ≠ (.slice (some ⟨go26, 0, none⟩) x4_4.length co26 : Value).ownBlock) (fun _ => False) rfl rfl ?aP (fun _ hk => hk.elim) ?aF ?aO ?aB ?aS ?aL ?_; (case aP => exact rfl); (case aB => exact (by repeat (first | (with_reducible first | exact HB.out | apply below_alloc | apply pw_below_drewN | apply below_drew1) | exact HB.out))); (case aF => exact (fun k_ hk => Kd.fresh' (Kd.R_lt (by (with_reducible repeat (first | apply Kd.R_alloc | apply Kd.R_drewN | apply Kd.R_drew)); exact HO_4.out)) k_ hk)); (case aO => exact ((Kd.R_nil _ _ _ _ (fun k_ => some k_ ≠ (.slice (some ⟨go26, 0, none⟩) x4_4.length co26 : Value).ownBlock)))); (case aS => exact (below_size (by repeat (first | (with_reducible first | exact HB.out | apply below_alloc | apply pw_below_drewN | apply below_drew1) | exact HB.out)))); (case aL => have := LMc48.out; omega); intro v137 w49 ho hb hg hat; rw [← Ny136.out] at ho; have n0_ := Aside0.mk (Kd.R_after (Kd.R_apart_nil (by (with_reducible repeat (first | apply Kd.R_alloc | apply Kd.R_drewN | apply Kd.R_drew)); exact HO_4.out)) hg hat); have n1_ := Aside0.mk (hb); have n2_ := Aside0.mk (ho); clear HO_4; clear HB; have HO_4 := n0_; have HB := n1_; have HO138 := n2_; clear n0_ n1_ n2_; clear ho hb hg hat))
                                          go_meet
                                          case rel => exact ⟨_, (y136), H', ⟨by have := HJ1.out; have := HK2.out; have := HK3.out; have := HK4.out; first | omega | exact Nat.le_refl _⟩, ⟨by (try simp only [hl4_4]); (with_reducible repeat (first | apply Kd.R_alloc | apply Kd.R_drewN | apply Kd.R_drew)); exact Kd.R_mono HO_4.out (fun _ hk => hk.2)⟩, ⟨by (try simp only [hl4_4]); (with_reducible repeat (first | apply Kd.R_alloc | apply Kd.R_drewN | apply Kd.R_drew)); exact HO138.out⟩, ⟨by repeat (first | (with_reducible first | exact HB.out | apply below_alloc | apply pw_below_drewN | apply below_drew1) | exact HB.out)⟩⟩
                                        · rw [if_neg c48] at H
                                          exact absurd H (by simp)
                                      · replace c47 := Bool.eq_false_iff.mpr c47
                                        subst c47
                                        have H1 : (headgateref22_May.j4 k4 l0 x4_4 x6_4 (wrap64 ((wrap64 ((rd x4_4 x6_4) - t130)) + t132)) ([] : List Int)) = some r := by rw [if_neg (show ¬ (false = true) by decide)] at H; exact H
                                        clear H
                                        have H := H1
                                        clear H1
                                        have H' := Aside0.mk H
                                        clear H
                                        go_wp2
                                        go_meet
                                        case rel => exact ⟨_, (([] : List Int)), H', ⟨by have := HJ1.out; have := HK2.out; have := HK3.out; have := HK4.out; first | omega | exact Nat.le_refl _⟩, ⟨by (try simp only [hl4_4]); (with_reducible repeat (first | apply Kd.R_alloc | apply Kd.R_drewN | apply Kd.R_drew)); exact Kd.R_mono HO_4.out (fun _ hk => (by simp [Value.ownBlock]))⟩, ⟨by (try simp only [hl4_4]); first | exact Kd.R_nil _ _ _ _ _ | exact Kd.N_nil _ _ _ _ _ | exact Kd.V_nil _ _ _ _ _ | exact Kd.Q_nil _ _ _ _ _ | exact Kd.S_nil _ _ _ _ _⟩, ⟨by repeat (first | (with_reducible first | exact HB.out | apply below_alloc | apply pw_below_drewN | apply below_drew1) | exact HB.out)⟩⟩
                                    case rest =>
                                      clear HC40
                                      try clear p1
                                      try clear q1
                                      try clear hx1
                                      try clear c2
                                      try clear p2
                                      try clear c3
                                      try clear c4
                                      try clear p6
                                      try clear p12
                                      try clear q12
                                      try clear hx12
                                      try clear p13
                                      try clear q13
                                      try clear hx13
                                      try clear c25
                                      try clear c26
                                      try clear c27
                                      try clear c29
                                      try clear c29b0
                                      try clear c30
                                      try clear c30b0
                                      try clear c31
                                      try clear c31b0
                                      try clear c32
                                      try clear c32b0
                                      try clear c34
                                      try clear c34b0
                                      try clear c47
                                      try clear c48
                                      try clear hx124_0
                                      try clear hx125_0
                                      try clear hx126_0
                                      try clear hx126_1
                                      try clear hx128_0
                                      try clear hx129_0
                                      try clear hx129_1
                                      try clear hx131_0
                                      try clear hx131_1
                                      try clear hx133_0
                                      try clear hx133_1
                                      try clear hx135_0
                                      try clear hx135_1
                                      try clear p124
                                      try clear p125
                                      try clear p126
                                      try clear p128
                                      try clear p129
                                      try clear p131
                                      try clear p133
                                      try clear p135
                                      try clear q124
                                      try clear q125
                                      try clear q126
                                      try clear q128
                                      try clear q129
                                      try clear q131
                                      try clear q133
                                      try clear q135
                                      obtain ⟨kq, x8_39, HA, HJ39, HO_4, HO_8, HB⟩ := hcut
                                      cases kq with
                                      | zero => exact absurd HA.out (by simp [headgateref22_May.j4])
                                      | succ kj39 =>
                                        have H := HA.out
                                        clear HA
                                        simp only [headgateref22_May.j4] at H
                                        by_cases c50 : 0 ≤ x6_4
                                        · rw [if_pos c50] at H
                                          have c50b0 : decide (0 ≤ x6_4) = true := decide_eq_true c50
                                          clear c50
                                          by_cases c51 : x6_4 < (l0.length : Int)
                                          · rw [if_pos c51] at H
                                            have c51b0 : decide (x6_4 < (l0.length : Int)) = true := decide_eq_true c51
                                            clear c51
                                            have HC52 := Aside0.mk H
                                            clear H
                                            have p139 : 0 ≤ (x6_4 : Int) := of_decide_eq_true (by first | (with_reducible assumption) | assumption)
                                            have q139 : x6_4 < (l0.length : Int) := of_decide_eq_true (by first | (with_reducible assumption) | assumption)
                                            obtain ⟨ad139, e139, hx139_0, hx139_1⟩ := at_T54 HR0.out x6_4 p139 q139
                                            obtain rfl : ad126 = ad139 := (by injection e139)
                                            replace hx139_0 := (HB.out.cell (World.block_lt_of_cell? w _ hx139_0)).trans hx139_0
                                            replace hx139_1 := (HB.out.cell (World.block_lt_of_cell? w _ hx139_1)).trans hx139_1
                                            replace p139 := eq_true p139
                                            replace q139 := eq_true q139
                                            go_upto_if 122 with (fail)
                                            go_cut [8] (fun v8 wc => ∃ (kq : Nat) (x8_51 : List Int), Aside0 (headgateref22_May.j5 kq l0 x4_4 x6_4 (wrap64 ((wrap64 ((rd x4_4 x6_4) - t130)) + t132)) x8_51 = some r) ∧ Aside0 (kq ≤ kj39) ∧ Aside0 (Kd.R (Kd.int .i64) 3 wc w.heap.size (fun k_ => some k_ ≠ (v8 : Value).ownBlock) (.slice (some ⟨go26, 0, none⟩) x4_4.length co26) x4_4) ∧ Aside0 (Kd.R (Kd.int .i64) 3 wc w.heap.size (fun k_ => some k_ ≠ ((.slice (some ⟨go26, 0, none⟩) x4_4.length co26) : Value).ownBlock) v8 x8_51) ∧ Aside0 (Below w.heap.size w wc))
                                            case first =>
                                              have H := HC52.out
                                              clear HC52
                                              by_cases c53 : ((rd_T54 l0 x6_4).f0) = 30
                                              · rw [if_pos c53] at H
                                                have c53b0 : (((rd_T54 l0 x6_4).f0) == 30) = true := beq_iff_eq.mpr c53
                                                have c53b1 : (((rd_T54 l0 x6_4).f0) != 30) = false := bne_eq_false_iff_eq.mpr c53
                                                clear c53
                                                (first | rw [c53b0] | (simp only [i64_w, i32_w]; rw [c53b0]) | skip)
                                                have H' := Aside0.mk H
                                                clear H
                                                go_wp2
                                                go_meet
                                                case rel => exact ⟨_, (x8_39), H', ⟨by have := HJ1.out; have := HK2.out; have := HK3.out; have := HK4.out; have := HJ39.out; first | omega | exact Nat.le_refl _⟩, ⟨by (try simp only [hl4_4]); (with_reducible repeat (first | apply Kd.R_alloc | apply Kd.R_drewN | apply Kd.R_drew)); exact HO_4.out⟩, ⟨by (try simp only [hl4_4]); (with_reducible repeat (first | apply Kd.R_alloc | apply Kd.R_drewN | apply Kd.R_drew)); exact HO_8.out⟩, ⟨by repeat (first | (with_reducible first | exact HB.out | apply below_alloc | apply pw_below_drewN | apply below_drew1) | exact HB.out)⟩⟩
                                              · rw [if_neg c53] at H
                                                have c53b0 : (((rd_T54 l0 x6_4).f0) == 30) = false := beq_eq_false_iff_ne.mpr c53
                                                have c53b1 : (((rd_T54 l0 x6_4).f0) != 30) = true := bne_iff_ne.mpr c53
                                                (first | rw [c53b0] | (simp only [i64_w, i32_w]; rw [c53b0]) | skip)
                                                by_cases c54 : x8_39.length < 17592186044416
                                                · rw [if_pos c54] at H
                                                  have LMc54 := Aside0.mk c54
                                                  clear c54
                                                  obtain ⟨y140, hy140⟩ : ∃ y_ : List Int, y_ = (x8_39 ++ [wrap64 (x6_4 + 1)]) := ⟨_, rfl⟩
                                                  replace H : (headgateref22_May.j5 kj39 l0 x4_4 x6_4 (wrap64 ((wrap64 ((rd x4_4 x6_4) - t130)) + t132)) y140) = some r := by first | (rw [hy140]; with_reducible exact H) | (have H2_ := (Option.bind_some _ _).symm.trans H; rw [hy140]; with_reducible exact H2_) | (have H2_ := (Option.bind_some _ _).symm.trans H; with_reducible exact H2_) | with_reducible exact H | (rw [hy140]; exact H) | exact H
                                                  have Ny140 := Aside0.mk hy140
                                                  clear hy140
                                                  have H' := Aside0.mk H
                                                  clear H
                                                  go_wp2_with (first | ((with_reducible refine gate_builtin (b := .append) (xs := #[.tmp 123, .tmp 126]) rfl ?_); (try (refine gate_guard (by rfl) ?_; dsimp only)); at_builtin; refine Kd.R_append (Kd.int .i64) (w0 := w) w.heap.size rfl (.tmp 123) (.tmp 126) 49 3 (.int .i64 0) 8 rfl Try.underlying49 info3 rfl (by decide) (by omega) u8 x8_39 (wrap64 (x6_4 + 1)) [.int .i64 (wrap64 (x6_4 + 1))] (fun k_ => some k_ ≠ (.slice (some ⟨go26, 0, none⟩) x4_4.length co26 : Value).ownBlock) (fun _ => False) rfl rfl ?aP (fun _ hk => hk.elim) ?aF ?aO ?aB ?aS ?aL ?_; (case aP => exact rfl); (case aB => exact (by repeat (first | (with_reducible first | exact HB.out | apply below_alloc | apply pw_below_drewN | apply below_drew1) | exact HB.out))); (case aF => exact (fun k_ hk => Kd.fresh' (Kd.R_lt (by (with_reducible repeat (first | apply Kd.R_alloc | apply Kd.R_drewN | apply Kd.R_drew)); exact HO_4.out)) k_ hk)); (case aO => exact (by (with_reducible repeat (first | apply Kd.R_alloc | apply Kd.R_drewN | apply Kd.R_drew)); exact HO_8.out)); (case aS => exact (below_size (by repeat (first | (with_reducible first | exact HB.out | apply below_alloc | apply pw_below_drewN | apply below_drew1) | exact HB.out)))); (case aL => have := LMc54.out; omega); intro v141 w55 ho hb hg hat; rw [← Ny140.out] at ho; have n0_ := Aside0.mk (Kd.R_after (ok := (fun _ => True)) (by (with_reducible repeat (first | apply Kd.R_alloc | apply Kd.R_drewN | apply Kd.R_drew)); exact Kd.R_mono HO_4.out (fun _ hk => ⟨trivial, hk⟩)) hg hat); have n1_ := Aside0.mk (hb); have n2_ := Aside0.mk (ho); clear HO_4; clear HB; clear HO_8; have HO_4 := n0_; have HB := n1_; have HO142 := n2_; clear n0_ n1_ n2_; clear ho hb hg hat))
                                                  go_meet
                                                  case rel => exact ⟨_, (y140), H', ⟨by have := HJ1.out; have := HK2.out; have := HK3.out; have := HK4.out; have := HJ39.out; first | omega | exact Nat.le_refl _⟩, ⟨by (try simp only [hl4_4]); (with_reducible repeat (first | apply Kd.R_alloc | apply Kd.R_drewN | apply Kd.R_drew)); exact Kd.R_mono HO_4.out (fun _ hk => hk.2)⟩, ⟨by (try simp only [hl4_4]); (with_reducible repeat (first | apply Kd.R_alloc | apply Kd.R_drewN | apply Kd.R_drew)); exact HO142.out⟩, ⟨by repeat (first | (with_reducible first | exact HB.out | apply below_alloc | apply pw_below_drewN | apply below_drew1) | exact HB.out)⟩⟩
                                                · rw [if_neg c54] at H
                                                  exact absurd H (by simp)
                                            case rest =>
                                              clear HC52
                                              try clear p1
                                              try clear q1
                                              try clear hx1
                                              try clear c2
                                              try clear p2
                                              try clear c3
                                              try clear c4
                                              try clear c5
                                              try clear p6
                                              try clear p12
                                              try clear q12
                                              try clear hx12
                                              try clear p13
                                              try clear q13
                                              try clear hx13
                                              try clear c25
                                              try clear c26
                                              try clear c27
                                              try clear c29
                                              try clear c29b0
                                              try clear c30
                                              try clear c30b0
                                              try clear c31
                                              try clear c31b0
                                              try clear c32
                                              try clear c32b0
                                              try clear c34
                                              try clear c34b0
                                              try clear c47
                                              try clear c48
                                              try clear c50
                                              try clear c50b0
                                              try clear c51
                                              try clear c51b0
                                              try clear c53
                                              try clear c53b0
                                              try clear c53b1
                                              try clear c54
                                              try clear hx124_0
                                              try clear hx125_0
                                              try clear hx126_0
                                              try clear hx126_1
                                              try clear hx128_0
                                              try clear hx129_0
                                              try clear hx129_1
                                              try clear hx131_0
                                              try clear hx131_1
                                              try clear hx133_0
                                              try clear hx133_1
                                              try clear hx135_0
                                              try clear hx135_1
                                              try clear hx139_0
                                              try clear hx139_1
                                              try clear p1
                                              try clear p12
                                              try clear p124
                                              try clear p125
                                              try clear p126
                                              try clear p128
                                              try clear p129
                                              try clear p13
                                              try clear p131
                                              try clear p133
                                              try clear p135
                                              try clear p139
                                              try clear p2
                                              try clear p6
                                              try clear q1
                                              try clear q12
                                              try clear q124
                                              try clear q125
                                              try clear q126
                                              try clear q128
                                              try clear q129
                                              try clear q13
                                              try clear q131
                                              try clear q133
                                              try clear q135
                                              try clear q139
                                              obtain ⟨kq, x8_51, HA, HJ51, HO_4, HO_8, HB⟩ := hcut
                                              cases kq with
                                              | zero => exact absurd HA.out (by simp [headgateref22_May.j5])
                                              | succ kj51 =>
                                                have H := HA.out
                                                clear HA
                                                simp only [headgateref22_May.j5] at H
                                                have H' := Aside0.mk H
                                                clear H
                                                go_wp2
                                                (try simp only [Act.put, List.setIfInBounds_toArray, List.set_cons_zero, List.set_cons_succ])
                                                go_loopg [9] kj51 (fun kq v9 w' => ∃ (x4_7 : List Int) (x9_7 : Int), v9 = .int .i64 x9_7 ∧ Aside0 (headgateref22_May.l3 kq l0 x4_7 x6_4 (wrap64 ((wrap64 ((rd x4_4 x6_4) - t130)) + t132)) x8_51 x9_7 = some r) ∧ Aside0 (kq ≤ kj51) ∧ Aside0 (Kd.R (Kd.int .i64) 3 w' w.heap.size (fun k_ => some k_ ≠ (u8 : Value).ownBlock) (.slice (some ⟨go26, 0, none⟩) x4_4.length co26) x4_7) ∧ Aside0 (Kd.R (Kd.int .i64) 3 w' w.heap.size (fun k_ => some k_ ≠ ((.slice (some ⟨go26, 0, none⟩) x4_4.length co26) : Value).ownBlock) u8 x8_51) ∧ Aside0 (Below w.heap.size w w'))
                                                case atStart => exact ⟨(x4_4), (0), (by first | rfl | (simp; done) | (simp [*]; done)), H', ⟨Nat.le_refl _⟩, ⟨by (try simp only [hl4_4]); (with_reducible repeat (first | apply Kd.R_alloc | apply Kd.R_drewN | apply Kd.R_drew)); exact HO_4.out⟩, ⟨by (try simp only [hl4_4]); (with_reducible repeat (first | apply Kd.R_alloc | apply Kd.R_drewN | apply Kd.R_drew)); exact HO_8.out⟩, ⟨by repeat (first | (with_reducible first | exact HB.out | apply below_alloc | apply pw_below_drewN | apply below_drew1) | exact HB.out)⟩⟩
                                                case round =>
                                                  clear H'
                                                  try clear p1
                                                  try clear q1
                                                  try clear hx1
                                                  try clear c2
                                                  try clear p2
                                                  try clear c3
                                                  try clear c4
                                                  try clear c5
                                                  try clear p6
                                                  try clear p12
                                                  try clear q12
                                                  try clear hx12
                                                  try clear p13
                                                  try clear q13
                                                  try clear hx13
                                                  try clear c25
                                                  try clear c26
                                                  try clear c27
                                                  try clear c29
                                                  try clear c29b0
                                                  try clear c30
                                                  try clear c30b0
                                                  try clear c31
                                                  try clear c31b0
                                                  try clear c32
                                                  try clear c32b0
                                                  try clear c34
                                                  try clear c34b0
                                                  try clear c47
                                                  try clear c48
                                                  try clear c50
                                                  try clear c50b0
                                                  try clear c51
                                                  try clear c51b0
                                                  try clear c53
                                                  try clear c53b0
                                                  try clear c53b1
                                                  try clear c54
                                                  try clear hx124_0
                                                  try clear hx125_0
                                                  try clear hx126_0
                                                  try clear hx126_1
                                                  try clear hx128_0
                                                  try clear hx129_0
                                                  try clear hx129_1
                                                  try clear hx131_0
                                                  try clear hx131_1
                                                  try clear hx133_0
                                                  try clear hx133_1
                                                  try clear hx135_0
                                                  try clear hx135_1
                                                  try clear hx139_0
                                                  try clear hx139_1
                                                  try clear p1
                                                  try clear p12
                                                  try clear p124
                                                  try clear p125
                                                  try clear p126
                                                  try clear p128
                                                  try clear p129
                                                  try clear p13
                                                  try clear p131
                                                  try clear p133
                                                  try clear p135
                                                  try clear p139
                                                  try clear p2
                                                  try clear p6
                                                  try clear q1
                                                  try clear q12
                                                  try clear q124
                                                  try clear q125
                                                  try clear q126
                                                  try clear q128
                                                  try clear q129
                                                  try clear q13
                                                  try clear q131
                                                  try clear q133
                                                  try clear q135
                                                  try clear q139
                                                  obtain ⟨x4_7, x9_7, rfl, HA, HK7, HO_4, HO_8, HB⟩ := hrel
                                                  have hl4_7 := (Kd.R_reads' HO_4.out).1
                                                  rw [hl4_7] at HO_4
                                                  (try simp only [hl4_7])
                                                  (try simp only [hl4_7] at HO_8)
                                                  cases gk with
                                                  | zero => exact absurd HA.out (by simp [headgateref22_May.l3])
                                                  | succ k7 =>
                                                    have H := HA.out
                                                    clear HA
                                                    simp only [headgateref22_May.l3] at H
                                                    by_cases c56 : x9_7 < (x8_51.length : Int)
                                                    · rw [if_pos c56] at H
                                                      have c56b0 : decide (x9_7 < (x8_51.length : Int)) = true := decide_eq_true c56
                                                      clear c56
                                                      by_cases c57 : (wrap64 ((wrap64 ((rd x4_4 x6_4) - t130)) + t132)) > 64
                                                      · rw [if_pos c57] at H
                                                        have c57b0 : decide (64 < (wrap64 ((wrap64 ((rd x4_4 x6_4) - t130)) + t132))) = true := decide_eq_true c57
                                                        clear c57
                                                        obtain rfl := Option.some.inj H
                                                        obtain ⟨Ao58, co58, eo58⟩ := Kd.R_slice HO_8.out
                                                        subst eo58
                                                        go_wp2
                                                        go_ret
                                                        exact ⟨by first | rfl | (simp [errW_none, errW_some] <;> rfl) | (simp [*, errW_none, errW_some] <;> rfl), by repeat (first | (with_reducible first | exact HB.out | apply below_alloc | apply pw_below_drewN | apply below_drew1) | exact HB.out)⟩
                                                      · rw [if_neg c57] at H
                                                        have c57b0 : decide (64 < (wrap64 ((wrap64 ((rd x4_4 x6_4) - t130)) + t132))) = false := decide_eq_false c57
                                                        clear c57
                                                        by_cases c59 : 0 ≤ x9_7
                                                        · rw [if_pos c59] at H
                                                          have c59b0 : decide (0 ≤ x9_7) = true := decide_eq_true c59
                                                          clear c59
                                                          by_cases c60 : 0 ≤ (rd x8_51 x9_7)
                                                          · rw [if_pos c60] at H
                                                            have c60b0 : decide (0 ≤ (rd x8_51 x9_7)) = true := decide_eq_true c60
                                                            clear c60
                                                            by_cases c61 : (rd x8_51 x9_7) < (x4_7.length : Int)
                                                            · rw [if_pos c61] at H
                                                              have c61b0 : decide ((rd x8_51 x9_7) < (x4_7.length : Int)) = true := decide_eq_true c61
                                                              clear c61
                                                              by_cases c62 : (rd x4_7 (rd x8_51 x9_7)) ≥ 0
                                                              · rw [if_pos c62] at H
                                                                have c62b0 : decide (0 ≤ (rd x4_7 (rd x8_51 x9_7))) = true := decide_eq_true c62
                                                                clear c62
                                                                by_cases c63 : (rd x4_7 (rd x8_51 x9_7)) = (wrap64 ((wrap64 ((rd x4_4 x6_4) - t130)) + t132))
                                                                · rw [if_pos c63] at H
                                                                  have c63b0 : ((rd x4_7 (rd x8_51 x9_7)) == (wrap64 ((wrap64 ((rd x4_4 x6_4) - t130)) + t132))) = true := beq_iff_eq.mpr c63
                                                                  have c63b1 : ((rd x4_7 (rd x8_51 x9_7)) != (wrap64 ((wrap64 ((rd x4_4 x6_4) - t130)) + t132))) = false := bne_eq_false_iff_eq.mpr c63
                                                                  clear c63
                                                                  obtain ⟨y148, hy148⟩ : ∃ y_ : List Int, y_ = (x4_7.set ((rd x8_51 x9_7) : Int).toNat (wrap64 ((wrap64 ((rd x4_4 x6_4) - t130)) + t132))) := ⟨_, rfl⟩
                                                                  replace H : (headgateref22_May.l3 k7 l0 y148 x6_4 (wrap64 ((wrap64 ((rd x4_4 x6_4) - t130)) + t132)) x8_51 (wrap64 (x9_7 + 1))) = some r := by first | (rw [hy148]; with_reducible exact H) | (have H2_ := (Option.bind_some _ _).symm.trans H; rw [hy148]; with_reducible exact H2_) | (have H2_ := (Option.bind_some _ _).symm.trans H; with_reducible exact H2_) | with_reducible exact H | (rw [hy148]; exact H) | exact H
                                                                  have Ny148 := Aside0.mk hy148
                                                                  clear hy148
                                                                  have H' := Aside0.mk H
                                                                  clear H
                                                                  obtain ⟨Ao65, co65, eo65⟩ := Kd.R_slice HO_8.out
                                                                  subst eo65
                                                                  have p143 : 0 ≤ (x9_7 : Int) := of_decide_eq_true (by first | (with_reducible assumption) | assumption)
                                                                  have q143 : x9_7 < (x8_51.length : Int) := of_decide_eq_true (by first | (with_reducible assumption) | assumption)
                                                                  obtain ⟨ad143, e143, hx143_0⟩ := Kd.at_int (Kd.R_reads' HO_8.out).2.2 x9_7 p143 q143
                                                                  cases e143
                                                                  replace p143 := eq_true p143
                                                                  replace q143 := eq_true q143
                                                                  have p144 : 0 ≤ ((rd x8_51 x9_7) : Int) := of_decide_eq_true (by first | (with_reducible assumption) | assumption)
                                                                  have q144 : (rd x8_51 x9_7) < (x4_7.length : Int) := of_decide_eq_true (by first | (with_reducible assumption) | assumption)
                                                                  obtain ⟨ad144, e144, hx144_0⟩ := Kd.at_int (Kd.R_reads' HO_4.out).2.2 (rd x8_51 x9_7) p144 q144
                                                                  obtain rfl : (⟨go26, 0, none⟩ : Addr) = ad144 := (by injection e144)
                                                                  (first | simp only [add_plain] at hx144_0 | simp only [add_at] at hx144_0 | simp only [Addr.add, Nat.zero_add] at hx144_0 | skip)
                                                                  replace p144 := eq_true p144
                                                                  replace q144 := eq_true q144
                                                                  have p145 : 0 ≤ (x9_7 : Int) := of_decide_eq_true (by first | (with_reducible assumption) | assumption)
                                                                  have q145 : x9_7 < (x8_51.length : Int) := of_decide_eq_true (by first | (with_reducible assumption) | assumption)
                                                                  obtain ⟨ad145, e145, hx145_0⟩ := Kd.at_int (Kd.R_reads' HO_8.out).2.2 x9_7 p145 q145
                                                                  obtain rfl : ad143 = ad145 := (by injection e145)
                                                                  replace p145 := eq_true p145
                                                                  replace q145 := eq_true q145
                                                                  have p146 : 0 ≤ ((rd x8_51 x9_7) : Int) := of_decide_eq_true (by first | (with_reducible assumption) | assumption)
                                                                  have q146 : (rd x8_51 x9_7) < (x4_7.length : Int) := of_decide_eq_true (by first | (with_reducible assumption) | assumption)
                                                                  obtain ⟨ad146, e146, hx146_0⟩ := Kd.at_int (Kd.R_reads' HO_4.out).2.2 (rd x8_51 x9_7) p146 q146
                                                                  obtain rfl : (⟨go26, 0, none⟩ : Addr) = ad146 := (by injection e146)
                                                                  (first | simp only [add_plain] at hx146_0 | simp only [add_at] at hx146_0 | simp only [Addr.add, Nat.zero_add] at hx146_0 | skip)
                                                                  replace p146 := eq_true p146
                                                                  replace q146 := eq_true q146
                                                                  have p147 : 0 ≤ (x9_7 : Int) := of_decide_eq_true (by first | (with_reducible assumption) | assumption)
                                                                  have q147 : x9_7 < (x8_51.length : Int) := of_decide_eq_true (by first | (with_reducible assumption) | assumption)
                                                                  obtain ⟨ad147, e147, hx147_0⟩ := Kd.at_int (Kd.R_reads' HO_8.out).2.2 x9_7 p147 q147
                                                                  obtain rfl : ad143 = ad147 := (by injection e147)
                                                                  replace p147 := eq_true p147
                                                                  replace q147 := eq_true q147
                                                                  have p64 : 0 ≤ ((rd x8_51 x9_7) : Int) := of_decide_eq_true (by first | (with_reducible assumption) | assumption)
                                                                  have q64 : ((rd x8_51 x9_7) : Int) < ((x4_7.length : Int) : Int) := of_decide_eq_true (by first | (with_reducible assumption) | assumption)
                                                                  obtain ⟨hx64_0, hf64_0⟩ := Kd.R_celln 0 HO_4.out ((rd x8_51 x9_7) : Int) p64 q64
                                                                  replace p64 := eq_true p64
                                                                  replace q64 := eq_true q64
                                                                  have HP66 := Kd.R_putg HO_4.out ((rd x8_51 x9_7) : Int) (wrap64 ((wrap64 ((rd x4_4 x6_4) - t130)) + t132))
                                                                  go_wp2_with (first | ((with_reducible refine gate_store (t := 3) (p := 163) rfl ?_); refine store_event (t := 3) (p := 163) (v := ?vo_w67) (w1 := (wr.setCell ⟨go26, ((rd x8_51 x9_7) : Int).toNat, none⟩ (.int .i64 (wrap64 ((wrap64 ((rd x4_4 x6_4) - t130)) + t132))))) ?hg ?ho ?hn ?hr ?_; (case ho => rfl); (case hg => rfl); (case hn => rfl); (case hr => first | (go_simp; done) | (go_simp; rfl)); intro w67 hw; have hg : wr.grownBy w67 (some go26) := (by rw [hw]; exact HP66.2); have hp_ : Kd.R (Kd.int .i64) 3 w67 w.heap.size (fun k_ => some k_ ≠ (.slice (some ad143) x8_51.length co65 : Value).ownBlock) (.slice (some ⟨go26, 0, none⟩) x4_7.length co26) y148 := (by rw [hw, Ny148.out]; exact HP66.1); clear HP66; have n0_ := Aside0.mk (hp_); have n1_ := Aside0.mk (Kd.R_after (v := (.slice (some ⟨go26, 0, none⟩) x4_7.length co26)) (v1 := (.slice (some ⟨go26, 0, none⟩) x4_7.length co26)) (ok := (fun _ => True)) (by (with_reducible repeat (first | apply Kd.R_alloc | apply Kd.R_drewN | apply Kd.R_drew)); exact Kd.R_mono HO_8.out (fun _ hk => ⟨trivial, hk⟩)) hg (.inl rfl)); have n2_ := Aside0.mk ((by rw [hw]; exact below_set (HB.out) GB26.out : Below w.heap.size w w67)); clear HO_4; clear HO_8; clear HB; have HO_4 := n0_; have HO_8 := n1_; have HB := n2_; clear n0_ n1_ n2_; clear hg hw hp_))
                                                                  (try simp only [← hl4_7])
                                                                  go_roundg k7
                                                                  case measure => have := HJ1.out; have := HK2.out; have := HK3.out; have := HK4.out; have := HJ39.out; have := HJ51.out; have := HK7.out; omega
                                                                  case rel => exact ⟨(y148), (wrap64 (x9_7 + 1)), (by first | rfl | (simp; done) | (simp [*]; done)), H', ⟨by have := HJ1.out; have := HK2.out; have := HK3.out; have := HK4.out; have := HJ39.out; have := HJ51.out; have := HK7.out; omega⟩, ⟨by (try simp only [hl4_4]); (try simp only [hl4_7]); (with_reducible repeat (first | apply Kd.R_alloc | apply Kd.R_drewN | apply Kd.R_drew)); exact HO_4.out⟩, ⟨by (try simp only [hl4_4]); (try simp only [hl4_7]); (with_reducible repeat (first | apply Kd.R_alloc | apply Kd.R_drewN | apply Kd.R_drew)); exact Kd.R_mono HO_8.out (fun _ hk => hk.2)⟩, ⟨by repeat (first | (with_reducible first | exact HB.out | apply below_alloc | apply pw_below_drewN | apply below_drew1) | exact HB.out)⟩⟩
                                                                · rw [if_neg c63] at H
                                                                  have c63b0 : ((rd x4_7 (rd x8_51 x9_7)) == (wrap64 ((wrap64 ((rd x4_4 x6_4) - t130)) + t132))) = false := beq_eq_false_iff_ne.mpr c63
                                                                  have c63b1 : ((rd x4_7 (rd x8_51 x9_7)) != (wrap64 ((wrap64 ((rd x4_4 x6_4) - t130)) + t132))) = true := bne_iff_ne.mpr c63
                                                                  obtain rfl := Option.some.inj H
                                                                  obtain ⟨Ao68, co68, eo68⟩ := Kd.R_slice HO_8.out
                                                                  subst eo68
                                                                  have p143 : 0 ≤ (x9_7 : Int) := of_decide_eq_true (by first | (with_reducible assumption) | assumption)
                                                                  have q143 : x9_7 < (x8_51.length : Int) := of_decide_eq_true (by first | (with_reducible assumption) | assumption)
                                                                  obtain ⟨ad143, e143, hx143_0⟩ := Kd.at_int (Kd.R_reads' HO_8.out).2.2 x9_7 p143 q143
                                                                  cases e143
                                                                  replace p143 := eq_true p143
                                                                  replace q143 := eq_true q143
                                                                  have p144 : 0 ≤ ((rd x8_51 x9_7) : Int) := of_decide_eq_true (by first | (with_reducible assumption) | assumption)
                                                                  have q144 : (rd x8_51 x9_7) < (x4_7.length : Int) := of_decide_eq_true (by first | (with_reducible assumption) | assumption)
                                                                  obtain ⟨ad144, e144, hx144_0⟩ := Kd.at_int (Kd.R_reads' HO_4.out).2.2 (rd x8_51 x9_7) p144 q144
                                                                  obtain rfl : (⟨go26, 0, none⟩ : Addr) = ad144 := (by injection e144)
                                                                  (first | simp only [add_plain] at hx144_0 | simp only [add_at] at hx144_0 | simp only [Addr.add, Nat.zero_add] at hx144_0 | skip)
                                                                  replace p144 := eq_true p144
                                                                  replace q144 := eq_true q144
                                                                  have p145 : 0 ≤ (x9_7 : Int) := of_decide_eq_true (by first | (with_reducible assumption) | assumption)
                                                                  have q145 : x9_7 < (x8_51.length : Int) := of_decide_eq_true (by first | (with_reducible assumption) | assumption)
                                                                  obtain ⟨ad145, e145, hx145_0⟩ := Kd.at_int (Kd.R_reads' HO_8.out).2.2 x9_7 p145 q145
                                                                  obtain rfl : ad143 = ad145 := (by injection e145)
                                                                  replace p145 := eq_true p145
                                                                  replace q145 := eq_true q145
                                                                  have p146 : 0 ≤ ((rd x8_51 x9_7) : Int) := of_decide_eq_true (by first | (with_reducible assumption) | assumption)
                                                                  have q146 : (rd x8_51 x9_7) < (x4_7.length : Int) := of_decide_eq_true (by first | (with_reducible assumption) | assumption)
                                                                  obtain ⟨ad146, e146, hx146_0⟩ := Kd.at_int (Kd.R_reads' HO_4.out).2.2 (rd x8_51 x9_7) p146 q146
                                                                  obtain rfl : (⟨go26, 0, none⟩ : Addr) = ad146 := (by injection e146)
                                                                  (first | simp only [add_plain] at hx146_0 | simp only [add_at] at hx146_0 | simp only [Addr.add, Nat.zero_add] at hx146_0 | skip)
                                                                  replace p146 := eq_true p146
                                                                  replace q146 := eq_true q146
                                                                  go_wp2
                                                                  go_ret
                                                                  exact ⟨by first | rfl | (simp [errW_none, errW_some] <;> rfl) | (simp [*, errW_none, errW_some] <;> rfl), by repeat (first | (with_reducible first | exact HB.out | apply below_alloc | apply pw_below_drewN | apply below_drew1) | exact HB.out)⟩
                                                              · rw [if_neg c62] at H
                                                                have c62b0 : decide (0 ≤ (rd x4_7 (rd x8_51 x9_7))) = false := decide_eq_false c62
                                                                clear c62
                                                                obtain ⟨y150, hy150⟩ : ∃ y_ : List Int, y_ = (x4_7.set ((rd x8_51 x9_7) : Int).toNat (wrap64 ((wrap64 ((rd x4_4 x6_4) - t130)) + t132))) := ⟨_, rfl⟩
                                                                replace H : (headgateref22_May.l3 k7 l0 y150 x6_4 (wrap64 ((wrap64 ((rd x4_4 x6_4) - t130)) + t132)) x8_51 (wrap64 (x9_7 + 1))) = some r := by first | (rw [hy150]; with_reducible exact H) | (have H2_ := (Option.bind_some _ _).symm.trans H; rw [hy150]; with_reducible exact H2_) | (have H2_ := (Option.bind_some _ _).symm.trans H; with_reducible exact H2_) | with_reducible exact H | (rw [hy150]; exact H) | exact H
                                                                have Ny150 := Aside0.mk hy150
                                                                clear hy150
                                                                have H' := Aside0.mk H
                                                                clear H
                                                                obtain ⟨Ao70, co70, eo70⟩ := Kd.R_slice HO_8.out
                                                                subst eo70
                                                                have p143 : 0 ≤ (x9_7 : Int) := of_decide_eq_true (by first | (with_reducible assumption) | assumption)
                                                                have q143 : x9_7 < (x8_51.length : Int) := of_decide_eq_true (by first | (with_reducible assumption) | assumption)
                                                                obtain ⟨ad143, e143, hx143_0⟩ := Kd.at_int (Kd.R_reads' HO_8.out).2.2 x9_7 p143 q143
                                                                cases e143
                                                                replace p143 := eq_true p143
                                                                replace q143 := eq_true q143
                                                                have p144 : 0 ≤ ((rd x8_51 x9_7) : Int) := of_decide_eq_true (by first | (with_reducible assumption) | assumption)
                                                                have q144 : (rd x8_51 x9_7) < (x4_7.length : Int) := of_decide_eq_true (by first | (with_reducible assumption) | assumption)
                                                                obtain ⟨ad144, e144, hx144_0⟩ := Kd.at_int (Kd.R_reads' HO_4.out).2.2 (rd x8_51 x9_7) p144 q144
                                                                obtain rfl : (⟨go26, 0, none⟩ : Addr) = ad144 := (by injection e144)
                                                                (first | simp only [add_plain] at hx144_0 | simp only [add_at] at hx144_0 | simp only [Addr.add, Nat.zero_add] at hx144_0 | skip)
                                                                replace p144 := eq_true p144
                                                                replace q144 := eq_true q144
                                                                have p149 : 0 ≤ (x9_7 : Int) := of_decide_eq_true (by first | (with_reducible assumption) | assumption)
                                                                have q149 : x9_7 < (x8_51.length : Int) := of_decide_eq_true (by first | (with_reducible assumption) | assumption)
                                                                obtain ⟨ad149, e149, hx149_0⟩ := Kd.at_int (Kd.R_reads' HO_8.out).2.2 x9_7 p149 q149
                                                                obtain rfl : ad143 = ad149 := (by injection e149)
                                                                replace p149 := eq_true p149
                                                                replace q149 := eq_true q149
                                                                have p69 : 0 ≤ ((rd x8_51 x9_7) : Int) := of_decide_eq_true (by first | (with_reducible assumption) | assumption)
                                                                have q69 : ((rd x8_51 x9_7) : Int) < ((x4_7.length : Int) : Int) := of_decide_eq_true (by first | (with_reducible assumption) | assumption)
                                                                obtain ⟨hx69_0, hf69_0⟩ := Kd.R_celln 0 HO_4.out ((rd x8_51 x9_7) : Int) p69 q69
                                                                replace p69 := eq_true p69
                                                                replace q69 := eq_true q69
                                                                have HP71 := Kd.R_putg HO_4.out ((rd x8_51 x9_7) : Int) (wrap64 ((wrap64 ((rd x4_4 x6_4) - t130)) + t132))
                                                                go_wp2_with (first | ((with_reducible refine gate_store (t := 3) (p := 163) rfl ?_); refine store_event (t := 3) (p := 163) (v := ?vo_w72) (w1 := (wr.setCell ⟨go26, ((rd x8_51 x9_7) : Int).toNat, none⟩ (.int .i64 (wrap64 ((wrap64 ((rd x4_4 x6_4) - t130)) + t132))))) ?hg ?ho ?hn ?hr ?_; (case ho => rfl); (case hg => rfl); (case hn => rfl); (case hr => first | (go_simp; done) | (go_simp; rfl)); intro w72 hw; have hg : wr.grownBy w72 (some go26) := (by rw [hw]; exact HP71.2); have hp_ : Kd.R (Kd.int .i64) 3 w72 w.heap.size (fun k_ => some k_ ≠ (.slice (some ad143) x8_51.length co70 : Value).ownBlock) (.slice (some ⟨go26, 0, none⟩) x4_7.length co26) y150 := (by rw [hw, Ny150.out]; exact HP71.1); clear HP71; have n0_ := Aside0.mk (hp_); have n1_ := Aside0.mk (Kd.R_after (v := (.slice (some ⟨go26, 0, none⟩) x4_7.length co26)) (v1 := (.slice (some ⟨go26, 0, none⟩) x4_7.length co26)) (ok := (fun _ => True)) (by (with_reducible repeat (first | apply Kd.R_alloc | apply Kd.R_drewN | apply Kd.R_drew)); exact Kd.R_mono HO_8.out (fun _ hk => ⟨trivial, hk⟩)) hg (.inl rfl)); have n2_ := Aside0.mk ((by rw [hw]; exact below_set (HB.out) GB26.out : Below w.heap.size w w72)); clear HO_4; clear HO_8; clear HB; have HO_4 := n0_; have HO_8 := n1_; have HB := n2_; clear n0_ n1_ n2_; clear hg hw hp_))
                                                                (try simp only [← hl4_7])
                                                                go_roundg k7
                                                                case measure => have := HJ1.out; have := HK2.out; have := HK3.out; have := HK4.out; have := HJ39.out; have := HJ51.out; have := HK7.out; omega
                                                                case rel => exact ⟨(y150), (wrap64 (x9_7 + 1)), (by first | rfl | (simp; done) | (simp [*]; done)), H', ⟨by have := HJ1.out; have := HK2.out; have := HK3.out; have := HK4.out; have := HJ39.out; have := HJ51.out; have := HK7.out; omega⟩, ⟨by (try simp only [hl4_4]); (try simp only [hl4_7]); (with_reducible repeat (first | apply Kd.R_alloc | apply Kd.R_drewN | apply Kd.R_drew)); exact HO_4.out⟩, ⟨by (try simp only [hl4_4]); (try simp only [hl4_7]); (with_reducible repeat (first | apply Kd.R_alloc | apply Kd.R_drewN | apply Kd.R_drew)); exact Kd.R_mono HO_8.out (fun _ hk => hk.2)⟩, ⟨by repeat (first | (with_reducible first | exact HB.out | apply below_alloc | apply pw_below_drewN | apply below_drew1) | exact HB.out)⟩⟩
                                                            · rw [if_neg c61] at H
                                                              exact absurd H (by simp)
                                                          · rw [if_neg c60] at H
                                                            exact absurd H (by simp)
                                                        · rw [if_neg c59] at H
                                                          exact absurd H (by simp)
                                                    · rw [if_neg c56] at H
                                                      have c56b0 : decide (x9_7 < (x8_51.length : Int)) = false := decide_eq_false c56
                                                      clear c56
                                                      have H' := Aside0.mk H
                                                      clear H
                                                      obtain ⟨Ao73, co73, eo73⟩ := Kd.R_slice HO_8.out
                                                      subst eo73
                                                      go_wp2
                                                      (try simp only [← hl4_4, ← hl4_7])
                                                      go_roundg k7
                                                      case measure => have := HJ1.out; have := HK2.out; have := HK3.out; have := HK4.out; have := HJ39.out; have := HJ51.out; have := HK7.out; omega
                                                      case rel => exact ⟨(x4_7), (wrap64 (x6_4 + 1)), (by first | rfl | (simp; done) | (simp [*]; done)), H', ⟨by have := HJ1.out; have := HK2.out; have := HK3.out; have := HK4.out; have := HJ39.out; have := HJ51.out; have := HK7.out; omega⟩, ⟨by (try simp only [hl4_4]); (try simp only [hl4_7]); (with_reducible repeat (first | apply Kd.R_alloc | apply Kd.R_drewN | apply Kd.R_drew)); exact Kd.R_mono HO_4.out (fun _ hk => trivial)⟩, ⟨by repeat (first | (with_reducible first | exact HB.out | apply below_alloc | apply pw_below_drewN | apply below_drew1) | exact HB.out)⟩⟩
                                          · rw [if_neg c51] at H
                                            exact absurd H (by simp)
                                        · rw [if_neg c50] at H
                                          exact absurd H (by simp)
                              · rw [if_neg c31] at H
                                exact absurd H (by simp)
                            · rw [if_neg c30] at H
                              exact absurd H (by simp)
                          · rw [if_neg c29] at H
                            have c29b0 : decide (x6_4 < (l0.length : Int)) = false := decide_eq_false c29
                            clear c29
                            by_cases c74 : 0 ≤ (l0.length : Int)
                            · rw [if_pos c74] at H
                              have c74b0 : decide (0 ≤ (l0.length : Int)) = true := decide_eq_true c74
                              have c74b1 : decide (0 ≤ l0.length) = true := decide_eq_true (by omega)
                              clear c74
                              by_cases c75 : (l0.length : Int) < (x4_4.length : Int)
                              · rw [if_pos c75] at H
                                have c75b0 : decide ((l0.length : Int) < (x4_4.length : Int)) = true := decide_eq_true c75
                                have c75b1 : decide (l0.length < x4_4.length) = true := decide_eq_true (Int.ofNat_lt.mp c75)
                                clear c75
                                obtain rfl := Option.some.inj H
                                have p123 : 0 ≤ ((l0.length : Int) : Int) := of_decide_eq_true (by first | (with_reducible assumption) | assumption)
                                have q123 : (l0.length : Int) < (x4_4.length : Int) := of_decide_eq_true (by first | (with_reducible assumption) | assumption)
                                obtain ⟨ad123, e123, hx123_0⟩ := Kd.at_int (Kd.R_reads' HO_4.out).2.2 (l0.length : Int) p123 q123
                                obtain rfl : (⟨go26, 0, none⟩ : Addr) = ad123 := (by injection e123)
                                (first | simp only [add_plain] at hx123_0 | simp only [add_at] at hx123_0 | simp only [Addr.add, Nat.zero_add] at hx123_0 | skip)
                                (try simp only [Go.IntWalk.toNatUp] at hx123_0)
                                (try simp only [hl4_4] at p123)
                                (try simp only [hl4_4] at q123)
                                (try simp only [hl4_4] at hx123_0)
                                replace p123 := eq_true p123
                                replace q123 := eq_true q123
                                go_wp2
                                go_ret
                                exact ⟨by first | rfl | (simp [errW_none, errW_some] <;> rfl) | (simp [*, errW_none, errW_some] <;> rfl), by repeat (first | (with_reducible first | exact HB.out | apply below_alloc | apply pw_below_drewN | apply below_drew1) | exact HB.out)⟩
                              · rw [if_neg c75] at H
                                exact absurd H (by simp)
                            · rw [if_neg c74] at H
                              exact absurd H (by simp)
                    · rw [if_neg c25] at H
                      exact absurd H (by simp)

end Go.Proofs.Ytekbcfgcojecmaa.P
