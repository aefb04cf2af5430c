-- Written by this session's program drv.py, by means of the kit's printer; not a text of print.sh.
import Derived.Test.YtdbccnhdblljbaaDoorF0
namespace Go.Proofs.YtdbccnhdblljbaaDoor.P
open Go.RowKit Go.Proofs.YtdbccnhdblljbaaDoorW.PrintWords Go.Proofs.YtdbccnhdblljbaaDoorW.PrintLast Go.Proofs.YtdbccnhdblljbaaDoorW.PrintMore
attribute [local go_sem] max2_int min2_int max_two min_two max_three min_three max_four min_four   -- for this text's walks alone
set_option linter.unusedVariables false
set_option linter.unusedSimpArgs false

/-! ### headgateref20_one: function 88 -/
def headgateref20_one.l0 : Nat → Int → ByteArray → Int → Option (Bool)
  | 0, _, _, _ => none
  | k + 1, x0, x3, x4 => if x4 < (x3.size : Int) then (if 0 ≤ x4 then (if (bt x3 x4) = x0 then (some true) else (headgateref20_one.l0 k x0 x3 (wrap64 (x4 + 1)))) else (none)) else (some false)
def headgateref20_one.f (k : Nat) (a0 : Int) : Option (Bool) := headgateref20_one.l0 k a0 (⟨#[43, 45, 42, 47, 37, 61, 60, 62, 40, 41, 44, 58, 59, 123, 125, 91, 93]⟩ : ByteArray) 0
theorem headgateref20_one.mono_l : ∀ k, (∀ y0 y1 y2, LeO (headgateref20_one.l0 k y0 y1 y2) (headgateref20_one.l0 (k + 1) y0 y1 y2))
  | 0 => fun _ _ _ r h => by simp [headgateref20_one.l0] at h
  | k + 1 => by
    have ih0 := headgateref20_one.mono_l k
    · intro y0 y1 y2
      unfold headgateref20_one.l0
      repeat' first
      | (with_reducible exact ih0 _ _ _)
      | (with_reducible exact LeO.refl _)
      | (with_reducible exact LeO.none _)
      | (with_reducible refine LeO.ite ?_ ?_)
      | (with_reducible refine LeO.bind ?_ (fun _ => ?_))
      | exact ih0 _ _ _
      | exact LeO.none _
      | refine LeO.ite ?_ ?_
      | refine LeO.bind ?_ (fun _ => ?_)
theorem headgateref20_one.mono : ∀ a0 k, LeO (headgateref20_one.f k a0) (headgateref20_one.f (k + 1) a0) := by
  intro a0 k
  have ih0 := headgateref20_one.mono_l k
  unfold headgateref20_one.f
  repeat' first
      | (with_reducible exact ih0 _ _ _)
      | (with_reducible exact LeO.refl _)
      | (with_reducible exact LeO.none _)
      | (with_reducible refine LeO.ite ?_ ?_)
      | (with_reducible refine LeO.bind ?_ (fun _ => ?_))
      | exact ih0 _ _ _
      | exact LeO.none _
      | refine LeO.ite ?_ ?_
      | refine LeO.bind ?_ (fun _ => ?_)
set_option maxHeartbeats 8000000 in
set_option maxRecDepth 100000 in
theorem headgateref20_one.calls (k : Nat) (a0 : Int) (r : Bool) (w : World) (h : headgateref20_one.f k a0 = some r) :
    Calls Tryd.prog 88 #[.int .u8 a0] w fun e w' => e = .returned (.bool r) ∧ Drawn0 w w' := by
  have H : (headgateref20_one.l0 k a0 (⟨#[43, 45, 42, 47, 37, 61, 60, 62, 40, 41, 44, 58, 59, 123, 125, 91, 93]⟩ : ByteArray) 0) = some r := h
  clear h
  have H' := Aside0.mk H
  clear H
  go_enter Tryd.func88, Tryd.ntmps88
  go_wp2
  (try simp only [Act.put, List.setIfInBounds_toArray, List.set_cons_zero, List.set_cons_succ])
  go_loopg [4] k (fun kq v4 w' => ∃ (x4_1 : Int), v4 = .int .i64 x4_1 ∧ Aside0 (headgateref20_one.l0 kq a0 (⟨#[43, 45, 42, 47, 37, 61, 60, 62, 40, 41, 44, 58, 59, 123, 125, 91, 93]⟩ : ByteArray) x4_1 = some r) ∧ Aside0 (kq ≤ k) ∧ Drawn0 w w')
  case atStart => exact ⟨(0), (by first | rfl | (simp; done) | (simp [*]; done)), H', ⟨Nat.le_refl _⟩, by repeat (first | exact Drawn0.refl _ | apply Drawn0.step)⟩
  case round =>
    clear H'
    obtain ⟨x4_1, rfl, HA, HK1, ⟨m1, rfl⟩⟩ := hrel
    cases gk with
    | zero => exact absurd HA.out (by simp [headgateref20_one.l0])
    | succ k1 =>
      have H := HA.out
      clear HA
      simp only [headgateref20_one.l0] at H
      by_cases c2 : x4_1 < ((⟨#[43, 45, 42, 47, 37, 61, 60, 62, 40, 41, 44, 58, 59, 123, 125, 91, 93]⟩ : ByteArray).size : Int)
      · rw [if_pos c2] at H
        (try (have c2z : x4_1 < 17 := by (first | exact c2 | (have h_ := c2; simp at h_ ⊢; omega) | (have h_ := c2; simp at h_ ⊢; exact h_))))
        (try (have c2z1 : decide (x4_1 < 17) = true := decide_eq_true c2z))
        (try (have c2z2 := eq_true c2z))
        (try (have c2z3 : (17 ≤ x4_1) = False := eq_false (by have h_ := c2z; omega)))
        try clear c2z
        have c2b0 : decide (x4_1 < ((⟨#[43, 45, 42, 47, 37, 61, 60, 62, 40, 41, 44, 58, 59, 123, 125, 91, 93]⟩ : ByteArray).size : Int)) = true := decide_eq_true c2
        clear c2
        by_cases c3 : 0 ≤ x4_1
        · rw [if_pos c3] at H
          have c3b0 : decide (0 ≤ x4_1) = true := decide_eq_true c3
          clear c3
          by_cases c5 : (bt (⟨#[43, 45, 42, 47, 37, 61, 60, 62, 40, 41, 44, 58, 59, 123, 125, 91, 93]⟩ : ByteArray) x4_1) = a0
          · rw [if_pos c5] at H
            have c5b0 : ((bt (⟨#[43, 45, 42, 47, 37, 61, 60, 62, 40, 41, 44, 58, 59, 123, 125, 91, 93]⟩ : ByteArray) x4_1) == a0) = true := beq_iff_eq.mpr c5
            have c5b1 : ((bt (⟨#[43, 45, 42, 47, 37, 61, 60, 62, 40, 41, 44, 58, 59, 123, 125, 91, 93]⟩ : ByteArray) x4_1) != a0) = false := bne_eq_false_iff_eq.mpr c5
            clear c5
            obtain rfl := Option.some.inj H
            have p4 : 0 ≤ (x4_1 : Int) := of_decide_eq_true (by first | (with_reducible assumption) | assumption)
            have q4 : x4_1 < (17 : Int) := of_decide_eq_true (by first | (with_reducible assumption) | assumption)
            have hx4 := bt_at (⟨#[43, 45, 42, 47, 37, 61, 60, 62, 40, 41, 44, 58, 59, 123, 125, 91, 93]⟩ : ByteArray) x4_1
            replace p4 := eq_true p4
            replace q4 := eq_true q4
            go_wp2
            go_ret
            exact ⟨by first | rfl | (simp; done) | (simp [*]; done), by repeat (first | exact Drawn0.refl _ | apply Drawn0.step)⟩
          · rw [if_neg c5] at H
            have c5b0 : ((bt (⟨#[43, 45, 42, 47, 37, 61, 60, 62, 40, 41, 44, 58, 59, 123, 125, 91, 93]⟩ : ByteArray) x4_1) == a0) = false := beq_eq_false_iff_ne.mpr c5
            have c5b1 : ((bt (⟨#[43, 45, 42, 47, 37, 61, 60, 62, 40, 41, 44, 58, 59, 123, 125, 91, 93]⟩ : ByteArray) x4_1) != a0) = true := bne_iff_ne.mpr c5
            have H' := Aside0.mk H
            clear H
            have p4 : 0 ≤ (x4_1 : Int) := of_decide_eq_true (by first | (with_reducible assumption) | assumption)
            have q4 : x4_1 < (17 : Int) := of_decide_eq_true (by first | (with_reducible assumption) | assumption)
            have hx4 := bt_at (⟨#[43, 45, 42, 47, 37, 61, 60, 62, 40, 41, 44, 58, 59, 123, 125, 91, 93]⟩ : ByteArray) x4_1
            replace p4 := eq_true p4
            replace q4 := eq_true q4
            go_wp2
            go_roundg k1
            case measure => have := HK1.out; omega
            case rel => exact ⟨(wrap64 (x4_1 + 1)), (by first | rfl | (simp; done) | (simp [*]; done)), H', ⟨by have := HK1.out; omega⟩, by repeat (first | exact Drawn0.refl _ | apply Drawn0.step)⟩
        · rw [if_neg c3] at H
          exact absurd H (by simp)
      · rw [if_neg c2] at H
        (try (have c2z : ¬ (x4_1 < 17) := by (first | exact c2 | (have h_ := c2; simp at h_ ⊢; omega) | (have h_ := c2; simp at h_ ⊢; exact h_))))
        (try (have c2z1 : decide (x4_1 < 17) = false := decide_eq_false c2z))
        (try (have c2z2 := eq_false c2z))
        (try (have c2z3 : (17 ≤ x4_1) = True := eq_true (by have h_ := c2z; omega)))
        try clear c2z
        have c2b0 : decide (x4_1 < ((⟨#[43, 45, 42, 47, 37, 61, 60, 62, 40, 41, 44, 58, 59, 123, 125, 91, 93]⟩ : ByteArray).size : Int)) = false := decide_eq_false c2
        clear c2
        obtain rfl := Option.some.inj H
        go_wp2
        go_ret
        exact ⟨by first | rfl | (simp; done) | (simp [*]; done), by repeat (first | exact Drawn0.refl _ | apply Drawn0.step)⟩

end Go.Proofs.YtdbccnhdblljbaaDoor.P
