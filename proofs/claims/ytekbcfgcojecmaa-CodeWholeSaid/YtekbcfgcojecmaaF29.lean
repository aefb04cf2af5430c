-- Written by this session's program drv.py, by means of the kit's printer; not a text of print.sh.
import Derived.Test.YtekbcfgcojecmaaF0
namespace Go.Proofs.Ytekbcfgcojecmaa.P
open Go.RowKit Go.Proofs.YtekbcfgcojecmaaW.PrintWords Go.Proofs.YtekbcfgcojecmaaW.PrintLast Go.Proofs.YtekbcfgcojecmaaW.PrintMore
attribute [local go_sem] max2_int min2_int max_two min_two max_three min_three max_four min_four   -- for this text's walks alone
set_option linter.unusedVariables false
set_option linter.unusedSimpArgs false

/-- What a kind of node makes of two numbers. -/
def apS (op a b : Int) : Int :=
  if op = 5 then wrap64 (-a) else if op = 6 then (if a = 0 then 1 else 0) else if op = 7 then wrap64 (a * b) else if op = 8 then (if b = 0 then 0 else wrap64 (Int.tdiv a b)) else if op = 9 then (if b = 0 then 0 else Int.tmod a b)
  else if op = 10 then wrap64 (a + b) else if op = 11 then wrap64 (a - b) else if op = 12 then (if a = b then 1 else 0) else if op = 13 then (if a = b then 0 else 1) else if op = 14 then (if a < b then 1 else 0) else if op = 15 then (if b < a then 0 else 1)
  else if op = 16 then (if b < a then 1 else 0) else if op = 17 then (if a < b then 0 else 1) else if op = 18 then (if a = 0 then 0 else if b = 0 then 0 else 1) else if op = 19 then (if a = 0 then (if b = 0 then 0 else 1) else 1)
  else if op = 20 then (if a < b then a else b) else if op = 21 then (if b < a then a else b) else 0
theorem one_calls (x : Bool) (w : World) : Calls Try.prog 42 #[.bool x] w fun e w' => e = .returned (.int .i64 (if x = true then 1 else 0)) ∧ w' = w := by
  cases x with
  | true =>
    go_enter Try.func42, Try.ntmps42
    go_wp2
    go_ret
    exact ⟨rfl, rfl⟩
  | false =>
    go_enter Try.func42, Try.ntmps42
    go_wp2
    go_ret
    exact ⟨rfl, rfl⟩
set_option maxHeartbeats 40000000 in
set_option maxRecDepth 100000 in
theorem applyR_calls (op a b : Int) (w : World) : Calls Try.prog 29 #[.int .i64 op, .int .i64 a, .int .i64 b] w fun e w' => e = .returned (.int .i64 (apS op a b)) ∧ w' = w := by
  by_cases c5 : op = 5
  · subst c5
    go_enter Try.func29, Try.ntmps29
    go_wp2_with (first | (go_at_call 42; (with_reducible refine (one_calls _ _).mono ?_); rintro e w' ⟨rfl, rfl⟩))
    go_ret
    exact ⟨by first | rfl | (simp [apS, *]; done) | (simp [apS, *]; omega), rfl⟩
  by_cases c6 : op = 6
  · subst c6
    by_cases za : a = 0
    · have ra : (a == 0) = true := beq_iff_eq.2 za
      have sa : (a != 0) = false := bne_eq_false_iff_eq.2 za
      have ta : (a = 0) = True := eq_true za
      go_enter Try.func29, Try.ntmps29
      go_wp2_with (first | (go_at_call 42; (with_reducible refine (one_calls _ _).mono ?_); rintro e w' ⟨rfl, rfl⟩))
      go_ret
      exact ⟨by first | rfl | (simp [apS, *]; done) | (simp [apS, *]; omega), rfl⟩
    · have ra : (a == 0) = false := beq_eq_false_iff_ne.2 za
      have sa : (a != 0) = true := bne_iff_ne.2 za
      have ta : (a = 0) = False := eq_false za
      go_enter Try.func29, Try.ntmps29
      go_wp2_with (first | (go_at_call 42; (with_reducible refine (one_calls _ _).mono ?_); rintro e w' ⟨rfl, rfl⟩))
      go_ret
      exact ⟨by first | rfl | (simp [apS, *]; done) | (simp [apS, *]; omega), rfl⟩
  by_cases c7 : op = 7
  · subst c7
    go_enter Try.func29, Try.ntmps29
    go_wp2_with (first | (go_at_call 42; (with_reducible refine (one_calls _ _).mono ?_); rintro e w' ⟨rfl, rfl⟩))
    go_ret
    exact ⟨by first | rfl | (simp [apS, *]; done) | (simp [apS, *]; omega), rfl⟩
  by_cases c8 : op = 8
  · subst c8
    by_cases zb : b = 0
    · have rb : (b == 0) = true := beq_iff_eq.2 zb
      have sb : (b != 0) = false := bne_eq_false_iff_eq.2 zb
      have tb : (b = 0) = True := eq_true zb
      go_enter Try.func29, Try.ntmps29
      go_wp2_with (first | (go_at_call 42; (with_reducible refine (one_calls _ _).mono ?_); rintro e w' ⟨rfl, rfl⟩))
      go_ret
      exact ⟨by first | rfl | (simp [apS, *]; done) | (simp [apS, *]; omega), rfl⟩
    · have rb : (b == 0) = false := beq_eq_false_iff_ne.2 zb
      have sb : (b != 0) = true := bne_iff_ne.2 zb
      have tb : (b = 0) = False := eq_false zb
      go_enter Try.func29, Try.ntmps29
      go_wp2_with (first | (go_at_call 42; (with_reducible refine (one_calls _ _).mono ?_); rintro e w' ⟨rfl, rfl⟩))
      go_ret
      exact ⟨by first | rfl | (simp [apS, *]; done) | (simp [apS, *]; omega), rfl⟩
  by_cases c9 : op = 9
  · subst c9
    by_cases zb : b = 0
    · have rb : (b == 0) = true := beq_iff_eq.2 zb
      have sb : (b != 0) = false := bne_eq_false_iff_eq.2 zb
      have tb : (b = 0) = True := eq_true zb
      go_enter Try.func29, Try.ntmps29
      go_wp2_with (first | (go_at_call 42; (with_reducible refine (one_calls _ _).mono ?_); rintro e w' ⟨rfl, rfl⟩))
      go_ret
      exact ⟨by first | rfl | (simp [apS, *]; done) | (simp [apS, *]; omega), rfl⟩
    · have rb : (b == 0) = false := beq_eq_false_iff_ne.2 zb
      have sb : (b != 0) = true := bne_iff_ne.2 zb
      have tb : (b = 0) = False := eq_false zb
      go_enter Try.func29, Try.ntmps29
      go_wp2_with (first | (go_at_call 42; (with_reducible refine (one_calls _ _).mono ?_); rintro e w' ⟨rfl, rfl⟩))
      go_ret
      exact ⟨by first | rfl | (simp [apS, *]; done) | (simp [apS, *]; omega), rfl⟩
  by_cases c10 : op = 10
  · subst c10
    go_enter Try.func29, Try.ntmps29
    go_wp2_with (first | (go_at_call 42; (with_reducible refine (one_calls _ _).mono ?_); rintro e w' ⟨rfl, rfl⟩))
    go_ret
    exact ⟨by first | rfl | (simp [apS, *]; done) | (simp [apS, *]; omega), rfl⟩
  by_cases c11 : op = 11
  · subst c11
    go_enter Try.func29, Try.ntmps29
    go_wp2_with (first | (go_at_call 42; (with_reducible refine (one_calls _ _).mono ?_); rintro e w' ⟨rfl, rfl⟩))
    go_ret
    exact ⟨by first | rfl | (simp [apS, *]; done) | (simp [apS, *]; omega), rfl⟩
  by_cases c12 : op = 12
  · subst c12
    rcases Int.lt_trichotomy a b with hab | hab | hab
    · have p1 : decide (a < b) = true := by simp; omega
      have p2 : decide (b < a) = false := by simp; omega
      have q1 : (a < b) = True := by simp; omega
      have q2 : (b < a) = False := by simp; omega
      have q3 : (a = b) = False := by simp; omega
      go_enter Try.func29, Try.ntmps29
      go_wp2_with (first | (go_at_call 42; (with_reducible refine (one_calls _ _).mono ?_); rintro e w' ⟨rfl, rfl⟩))
      go_ret
      exact ⟨by first | rfl | (simp [apS, *]; done) | (simp [apS, *]; omega), rfl⟩
    · have p1 : decide (a < b) = false := by simp; omega
      have p2 : decide (b < a) = false := by simp; omega
      have q1 : (a < b) = False := by simp; omega
      have q2 : (b < a) = False := by simp; omega
      have q3 : (a = b) = True := by simp; omega
      go_enter Try.func29, Try.ntmps29
      go_wp2_with (first | (go_at_call 42; (with_reducible refine (one_calls _ _).mono ?_); rintro e w' ⟨rfl, rfl⟩))
      go_ret
      exact ⟨by first | rfl | (simp [apS, *]; done) | (simp [apS, *]; omega), rfl⟩
    · have p1 : decide (a < b) = false := by simp; omega
      have p2 : decide (b < a) = true := by simp; omega
      have q1 : (a < b) = False := by simp; omega
      have q2 : (b < a) = True := by simp; omega
      have q3 : (a = b) = False := by simp; omega
      go_enter Try.func29, Try.ntmps29
      go_wp2_with (first | (go_at_call 42; (with_reducible refine (one_calls _ _).mono ?_); rintro e w' ⟨rfl, rfl⟩))
      go_ret
      exact ⟨by first | rfl | (simp [apS, *]; done) | (simp [apS, *]; omega), rfl⟩
  by_cases c13 : op = 13
  · subst c13
    rcases Int.lt_trichotomy a b with hab | hab | hab
    · have p1 : decide (a < b) = true := by simp; omega
      have p2 : decide (b < a) = false := by simp; omega
      have q1 : (a < b) = True := by simp; omega
      have q2 : (b < a) = False := by simp; omega
      have q3 : (a = b) = False := by simp; omega
      go_enter Try.func29, Try.ntmps29
      go_wp2_with (first | (go_at_call 42; (with_reducible refine (one_calls _ _).mono ?_); rintro e w' ⟨rfl, rfl⟩))
      go_ret
      exact ⟨by first | rfl | (simp [apS, *]; done) | (simp [apS, *]; omega), rfl⟩
    · have p1 : decide (a < b) = false := by simp; omega
      have p2 : decide (b < a) = false := by simp; omega
      have q1 : (a < b) = False := by simp; omega
      have q2 : (b < a) = False := by simp; omega
      have q3 : (a = b) = True := by simp; omega
      go_enter Try.func29, Try.ntmps29
      go_wp2_with (first | (go_at_call 42; (with_reducible refine (one_calls _ _).mono ?_); rintro e w' ⟨rfl, rfl⟩))
      go_ret
      exact ⟨by first | rfl | (simp [apS, *]; done) | (simp [apS, *]; omega), rfl⟩
    · have p1 : decide (a < b) = false := by simp; omega
      have p2 : decide (b < a) = true := by simp; omega
      have q1 : (a < b) = False := by simp; omega
      have q2 : (b < a) = True := by simp; omega
      have q3 : (a = b) = False := by simp; omega
      go_enter Try.func29, Try.ntmps29
      go_wp2_with (first | (go_at_call 42; (with_reducible refine (one_calls _ _).mono ?_); rintro e w' ⟨rfl, rfl⟩))
      go_ret
      exact ⟨by first | rfl | (simp [apS, *]; done) | (simp [apS, *]; omega), rfl⟩
  by_cases c14 : op = 14
  · subst c14
    rcases Int.lt_trichotomy a b with hab | hab | hab
    · have p1 : decide (a < b) = true := by simp; omega
      have p2 : decide (b < a) = false := by simp; omega
      have q1 : (a < b) = True := by simp; omega
      have q2 : (b < a) = False := by simp; omega
      have q3 : (a = b) = False := by simp; omega
      go_enter Try.func29, Try.ntmps29
      go_wp2_with (first | (go_at_call 42; (with_reducible refine (one_calls _ _).mono ?_); rintro e w' ⟨rfl, rfl⟩))
      go_ret
      exact ⟨by first | rfl | (simp [apS, *]; done) | (simp [apS, *]; omega), rfl⟩
    · have p1 : decide (a < b) = false := by simp; omega
      have p2 : decide (b < a) = false := by simp; omega
      have q1 : (a < b) = False := by simp; omega
      have q2 : (b < a) = False := by simp; omega
      have q3 : (a = b) = True := by simp; omega
      go_enter Try.func29, Try.ntmps29
      go_wp2_with (first | (go_at_call 42; (with_reducible refine (one_calls _ _).mono ?_); rintro e w' ⟨rfl, rfl⟩))
      go_ret
      exact ⟨by first | rfl | (simp [apS, *]; done) | (simp [apS, *]; omega), rfl⟩
    · have p1 : decide (a < b) = false := by simp; omega
      have p2 : decide (b < a) = true := by simp; omega
      have q1 : (a < b) = False := by simp; omega
      have q2 : (b < a) = True := by simp; omega
      have q3 : (a = b) = False := by simp; omega
      go_enter Try.func29, Try.ntmps29
      go_wp2_with (first | (go_at_call 42; (with_reducible refine (one_calls _ _).mono ?_); rintro e w' ⟨rfl, rfl⟩))
      go_ret
      exact ⟨by first | rfl | (simp [apS, *]; done) | (simp [apS, *]; omega), rfl⟩
  by_cases c15 : op = 15
  · subst c15
    rcases Int.lt_trichotomy a b with hab | hab | hab
    · have p1 : decide (a < b) = true := by simp; omega
      have p2 : decide (b < a) = false := by simp; omega
      have q1 : (a < b) = True := by simp; omega
      have q2 : (b < a) = False := by simp; omega
      have q3 : (a = b) = False := by simp; omega
      go_enter Try.func29, Try.ntmps29
      go_wp2_with (first | (go_at_call 42; (with_reducible refine (one_calls _ _).mono ?_); rintro e w' ⟨rfl, rfl⟩))
      go_ret
      exact ⟨by first | rfl | (simp [apS, *]; done) | (simp [apS, *]; omega), rfl⟩
    · have p1 : decide (a < b) = false := by simp; omega
      have p2 : decide (b < a) = false := by simp; omega
      have q1 : (a < b) = False := by simp; omega
      have q2 : (b < a) = False := by simp; omega
      have q3 : (a = b) = True := by simp; omega
      go_enter Try.func29, Try.ntmps29
      go_wp2_with (first | (go_at_call 42; (with_reducible refine (one_calls _ _).mono ?_); rintro e w' ⟨rfl, rfl⟩))
      go_ret
      exact ⟨by first | rfl | (simp [apS, *]; done) | (simp [apS, *]; omega), rfl⟩
    · have p1 : decide (a < b) = false := by simp; omega
      have p2 : decide (b < a) = true := by simp; omega
      have q1 : (a < b) = False := by simp; omega
      have q2 : (b < a) = True := by simp; omega
      have q3 : (a = b) = False := by simp; omega
      go_enter Try.func29, Try.ntmps29
      go_wp2_with (first | (go_at_call 42; (with_reducible refine (one_calls _ _).mono ?_); rintro e w' ⟨rfl, rfl⟩))
      go_ret
      exact ⟨by first | rfl | (simp [apS, *]; done) | (simp [apS, *]; omega), rfl⟩
  by_cases c16 : op = 16
  · subst c16
    rcases Int.lt_trichotomy a b with hab | hab | hab
    · have p1 : decide (a < b) = true := by simp; omega
      have p2 : decide (b < a) = false := by simp; omega
      have q1 : (a < b) = True := by simp; omega
      have q2 : (b < a) = False := by simp; omega
      have q3 : (a = b) = False := by simp; omega
      go_enter Try.func29, Try.ntmps29
      go_wp2_with (first | (go_at_call 42; (with_reducible refine (one_calls _ _).mono ?_); rintro e w' ⟨rfl, rfl⟩))
      go_ret
      exact ⟨by first | rfl | (simp [apS, *]; done) | (simp [apS, *]; omega), rfl⟩
    · have p1 : decide (a < b) = false := by simp; omega
      have p2 : decide (b < a) = false := by simp; omega
      have q1 : (a < b) = False := by simp; omega
      have q2 : (b < a) = False := by simp; omega
      have q3 : (a = b) = True := by simp; omega
      go_enter Try.func29, Try.ntmps29
      go_wp2_with (first | (go_at_call 42; (with_reducible refine (one_calls _ _).mono ?_); rintro e w' ⟨rfl, rfl⟩))
      go_ret
      exact ⟨by first | rfl | (simp [apS, *]; done) | (simp [apS, *]; omega), rfl⟩
    · have p1 : decide (a < b) = false := by simp; omega
      have p2 : decide (b < a) = true := by simp; omega
      have q1 : (a < b) = False := by simp; omega
      have q2 : (b < a) = True := by simp; omega
      have q3 : (a = b) = False := by simp; omega
      go_enter Try.func29, Try.ntmps29
      go_wp2_with (first | (go_at_call 42; (with_reducible refine (one_calls _ _).mono ?_); rintro e w' ⟨rfl, rfl⟩))
      go_ret
      exact ⟨by first | rfl | (simp [apS, *]; done) | (simp [apS, *]; omega), rfl⟩
  by_cases c17 : op = 17
  · subst c17
    rcases Int.lt_trichotomy a b with hab | hab | hab
    · have p1 : decide (a < b) = true := by simp; omega
      have p2 : decide (b < a) = false := by simp; omega
      have q1 : (a < b) = True := by simp; omega
      have q2 : (b < a) = False := by simp; omega
      have q3 : (a = b) = False := by simp; omega
      go_enter Try.func29, Try.ntmps29
      go_wp2_with (first | (go_at_call 42; (with_reducible refine (one_calls _ _).mono ?_); rintro e w' ⟨rfl, rfl⟩))
      go_ret
      exact ⟨by first | rfl | (simp [apS, *]; done) | (simp [apS, *]; omega), rfl⟩
    · have p1 : decide (a < b) = false := by simp; omega
      have p2 : decide (b < a) = false := by simp; omega
      have q1 : (a < b) = False := by simp; omega
      have q2 : (b < a) = False := by simp; omega
      have q3 : (a = b) = True := by simp; omega
      go_enter Try.func29, Try.ntmps29
      go_wp2_with (first | (go_at_call 42; (with_reducible refine (one_calls _ _).mono ?_); rintro e w' ⟨rfl, rfl⟩))
      go_ret
      exact ⟨by first | rfl | (simp [apS, *]; done) | (simp [apS, *]; omega), rfl⟩
    · have p1 : decide (a < b) = false := by simp; omega
      have p2 : decide (b < a) = true := by simp; omega
      have q1 : (a < b) = False := by simp; omega
      have q2 : (b < a) = True := by simp; omega
      have q3 : (a = b) = False := by simp; omega
      go_enter Try.func29, Try.ntmps29
      go_wp2_with (first | (go_at_call 42; (with_reducible refine (one_calls _ _).mono ?_); rintro e w' ⟨rfl, rfl⟩))
      go_ret
      exact ⟨by first | rfl | (simp [apS, *]; done) | (simp [apS, *]; omega), rfl⟩
  by_cases c18 : op = 18
  · subst c18
    by_cases za : a = 0
    · have ra : (a == 0) = true := beq_iff_eq.2 za
      have sa : (a != 0) = false := bne_eq_false_iff_eq.2 za
      have ta : (a = 0) = True := eq_true za
      by_cases zb : b = 0
      · have rb : (b == 0) = true := beq_iff_eq.2 zb
        have sb : (b != 0) = false := bne_eq_false_iff_eq.2 zb
        have tb : (b = 0) = True := eq_true zb
        go_enter Try.func29, Try.ntmps29
        go_wp2_with (first | (go_at_call 42; (with_reducible refine (one_calls _ _).mono ?_); rintro e w' ⟨rfl, rfl⟩))
        go_ret
        exact ⟨by first | rfl | (simp [apS, *]; done) | (simp [apS, *]; omega), rfl⟩
      · have rb : (b == 0) = false := beq_eq_false_iff_ne.2 zb
        have sb : (b != 0) = true := bne_iff_ne.2 zb
        have tb : (b = 0) = False := eq_false zb
        go_enter Try.func29, Try.ntmps29
        go_wp2_with (first | (go_at_call 42; (with_reducible refine (one_calls _ _).mono ?_); rintro e w' ⟨rfl, rfl⟩))
        go_ret
        exact ⟨by first | rfl | (simp [apS, *]; done) | (simp [apS, *]; omega), rfl⟩
    · have ra : (a == 0) = false := beq_eq_false_iff_ne.2 za
      have sa : (a != 0) = true := bne_iff_ne.2 za
      have ta : (a = 0) = False := eq_false za
      by_cases zb : b = 0
      · have rb : (b == 0) = true := beq_iff_eq.2 zb
        have sb : (b != 0) = false := bne_eq_false_iff_eq.2 zb
        have tb : (b = 0) = True := eq_true zb
        go_enter Try.func29, Try.ntmps29
        go_wp2_with (first | (go_at_call 42; (with_reducible refine (one_calls _ _).mono ?_); rintro e w' ⟨rfl, rfl⟩))
        go_ret
        exact ⟨by first | rfl | (simp [apS, *]; done) | (simp [apS, *]; omega), rfl⟩
      · have rb : (b == 0) = false := beq_eq_false_iff_ne.2 zb
        have sb : (b != 0) = true := bne_iff_ne.2 zb
        have tb : (b = 0) = False := eq_false zb
        go_enter Try.func29, Try.ntmps29
        go_wp2_with (first | (go_at_call 42; (with_reducible refine (one_calls _ _).mono ?_); rintro e w' ⟨rfl, rfl⟩))
        go_ret
        exact ⟨by first | rfl | (simp [apS, *]; done) | (simp [apS, *]; omega), rfl⟩
  by_cases c19 : op = 19
  · subst c19
    by_cases za : a = 0
    · have ra : (a == 0) = true := beq_iff_eq.2 za
      have sa : (a != 0) = false := bne_eq_false_iff_eq.2 za
      have ta : (a = 0) = True := eq_true za
      by_cases zb : b = 0
      · have rb : (b == 0) = true := beq_iff_eq.2 zb
        have sb : (b != 0) = false := bne_eq_false_iff_eq.2 zb
        have tb : (b = 0) = True := eq_true zb
        go_enter Try.func29, Try.ntmps29
        go_wp2_with (first | (go_at_call 42; (with_reducible refine (one_calls _ _).mono ?_); rintro e w' ⟨rfl, rfl⟩))
        go_ret
        exact ⟨by first | rfl | (simp [apS, *]; done) | (simp [apS, *]; omega), rfl⟩
      · have rb : (b == 0) = false := beq_eq_false_iff_ne.2 zb
        have sb : (b != 0) = true := bne_iff_ne.2 zb
        have tb : (b = 0) = False := eq_false zb
        go_enter Try.func29, Try.ntmps29
        go_wp2_with (first | (go_at_call 42; (with_reducible refine (one_calls _ _).mono ?_); rintro e w' ⟨rfl, rfl⟩))
        go_ret
        exact ⟨by first | rfl | (simp [apS, *]; done) | (simp [apS, *]; omega), rfl⟩
    · have ra : (a == 0) = false := beq_eq_false_iff_ne.2 za
      have sa : (a != 0) = true := bne_iff_ne.2 za
      have ta : (a = 0) = False := eq_false za
      by_cases zb : b = 0
      · have rb : (b == 0) = true := beq_iff_eq.2 zb
        have sb : (b != 0) = false := bne_eq_false_iff_eq.2 zb
        have tb : (b = 0) = True := eq_true zb
        go_enter Try.func29, Try.ntmps29
        go_wp2_with (first | (go_at_call 42; (with_reducible refine (one_calls _ _).mono ?_); rintro e w' ⟨rfl, rfl⟩))
        go_ret
        exact ⟨by first | rfl | (simp [apS, *]; done) | (simp [apS, *]; omega), rfl⟩
      · have rb : (b == 0) = false := beq_eq_false_iff_ne.2 zb
        have sb : (b != 0) = true := bne_iff_ne.2 zb
        have tb : (b = 0) = False := eq_false zb
        go_enter Try.func29, Try.ntmps29
        go_wp2_with (first | (go_at_call 42; (with_reducible refine (one_calls _ _).mono ?_); rintro e w' ⟨rfl, rfl⟩))
        go_ret
        exact ⟨by first | rfl | (simp [apS, *]; done) | (simp [apS, *]; omega), rfl⟩
  by_cases c20 : op = 20
  · subst c20
    rcases Int.lt_trichotomy a b with hab | hab | hab
    · have p1 : decide (a < b) = true := by simp; omega
      have p2 : decide (b < a) = false := by simp; omega
      have q1 : (a < b) = True := by simp; omega
      have q2 : (b < a) = False := by simp; omega
      have q3 : (a = b) = False := by simp; omega
      go_enter Try.func29, Try.ntmps29
      go_wp2_with (first | (go_at_call 42; (with_reducible refine (one_calls _ _).mono ?_); rintro e w' ⟨rfl, rfl⟩))
      go_ret
      exact ⟨by first | rfl | (simp [apS, *]; done) | (simp [apS, *]; omega), rfl⟩
    · have p1 : decide (a < b) = false := by simp; omega
      have p2 : decide (b < a) = false := by simp; omega
      have q1 : (a < b) = False := by simp; omega
      have q2 : (b < a) = False := by simp; omega
      have q3 : (a = b) = True := by simp; omega
      go_enter Try.func29, Try.ntmps29
      go_wp2_with (first | (go_at_call 42; (with_reducible refine (one_calls _ _).mono ?_); rintro e w' ⟨rfl, rfl⟩))
      go_ret
      exact ⟨by first | rfl | (simp [apS, *]; done) | (simp [apS, *]; omega), rfl⟩
    · have p1 : decide (a < b) = false := by simp; omega
      have p2 : decide (b < a) = true := by simp; omega
      have q1 : (a < b) = False := by simp; omega
      have q2 : (b < a) = True := by simp; omega
      have q3 : (a = b) = False := by simp; omega
      go_enter Try.func29, Try.ntmps29
      go_wp2_with (first | (go_at_call 42; (with_reducible refine (one_calls _ _).mono ?_); rintro e w' ⟨rfl, rfl⟩))
      go_ret
      exact ⟨by first | rfl | (simp [apS, *]; done) | (simp [apS, *]; omega), rfl⟩
  by_cases c21 : op = 21
  · subst c21
    rcases Int.lt_trichotomy a b with hab | hab | hab
    · have p1 : decide (a < b) = true := by simp; omega
      have p2 : decide (b < a) = false := by simp; omega
      have q1 : (a < b) = True := by simp; omega
      have q2 : (b < a) = False := by simp; omega
      have q3 : (a = b) = False := by simp; omega
      go_enter Try.func29, Try.ntmps29
      go_wp2_with (first | (go_at_call 42; (with_reducible refine (one_calls _ _).mono ?_); rintro e w' ⟨rfl, rfl⟩))
      go_ret
      exact ⟨by first | rfl | (simp [apS, *]; done) | (simp [apS, *]; omega), rfl⟩
    · have p1 : decide (a < b) = false := by simp; omega
      have p2 : decide (b < a) = false := by simp; omega
      have q1 : (a < b) = False := by simp; omega
      have q2 : (b < a) = False := by simp; omega
      have q3 : (a = b) = True := by simp; omega
      go_enter Try.func29, Try.ntmps29
      go_wp2_with (first | (go_at_call 42; (with_reducible refine (one_calls _ _).mono ?_); rintro e w' ⟨rfl, rfl⟩))
      go_ret
      exact ⟨by first | rfl | (simp [apS, *]; done) | (simp [apS, *]; omega), rfl⟩
    · have p1 : decide (a < b) = false := by simp; omega
      have p2 : decide (b < a) = true := by simp; omega
      have q1 : (a < b) = False := by simp; omega
      have q2 : (b < a) = True := by simp; omega
      have q3 : (a = b) = False := by simp; omega
      go_enter Try.func29, Try.ntmps29
      go_wp2_with (first | (go_at_call 42; (with_reducible refine (one_calls _ _).mono ?_); rintro e w' ⟨rfl, rfl⟩))
      go_ret
      exact ⟨by first | rfl | (simp [apS, *]; done) | (simp [apS, *]; omega), rfl⟩
  have b5 : (op == 5) = false := beq_eq_false_iff_ne.2 c5
  have b6 : (op == 6) = false := beq_eq_false_iff_ne.2 c6
  have b7 : (op == 7) = false := beq_eq_false_iff_ne.2 c7
  have b8 : (op == 8) = false := beq_eq_false_iff_ne.2 c8
  have b9 : (op == 9) = false := beq_eq_false_iff_ne.2 c9
  have b10 : (op == 10) = false := beq_eq_false_iff_ne.2 c10
  have b11 : (op == 11) = false := beq_eq_false_iff_ne.2 c11
  have b12 : (op == 12) = false := beq_eq_false_iff_ne.2 c12
  have b13 : (op == 13) = false := beq_eq_false_iff_ne.2 c13
  have b14 : (op == 14) = false := beq_eq_false_iff_ne.2 c14
  have b15 : (op == 15) = false := beq_eq_false_iff_ne.2 c15
  have b16 : (op == 16) = false := beq_eq_false_iff_ne.2 c16
  have b17 : (op == 17) = false := beq_eq_false_iff_ne.2 c17
  have b18 : (op == 18) = false := beq_eq_false_iff_ne.2 c18
  have b19 : (op == 19) = false := beq_eq_false_iff_ne.2 c19
  have b20 : (op == 20) = false := beq_eq_false_iff_ne.2 c20
  have b21 : (op == 21) = false := beq_eq_false_iff_ne.2 c21
  have ez : apS op a b = 0 := by simp [apS, c5, c6, c7, c8, c9, c10, c11, c12, c13, c14, c15, c16, c17, c18, c19, c20, c21]
  rw [ez]
  by_cases g1 : 12 ≤ op
  · have g1' : decide (12 ≤ op) = true := decide_eq_true g1
    have g2 : decide (op ≤ 17) = false := decide_eq_false (by omega)
    go_enter Try.func29, Try.ntmps29
    go_wp2_with (first | (go_at_call 42; (with_reducible refine (one_calls _ _).mono ?_); rintro e w' ⟨rfl, rfl⟩))
    go_ret
    exact ⟨rfl, rfl⟩
  · have g1' : decide (12 ≤ op) = false := decide_eq_false g1
    go_enter Try.func29, Try.ntmps29
    go_wp2_with (first | (go_at_call 42; (with_reducible refine (one_calls _ _).mono ?_); rintro e w' ⟨rfl, rfl⟩))
    go_ret
    exact ⟨rfl, rfl⟩
def headgateref21_Apply.f (a0 a1 a2 : Int) : Option Int := some (apS a0 a1 a2)
theorem headgateref21_Apply.calls (a0 : Int) (a1 : Int) (a2 : Int) (r : Int) (w : World) (h : headgateref21_Apply.f a0 a1 a2 = some r) :
    Calls Try.prog 29 #[.int .i64 a0, .int .i64 a1, .int .i64 a2] w fun e w' => e = .returned (.int .i64 r) ∧ Drawn0 w w' := by
  obtain rfl := Option.some.inj h
  exact (applyR_calls a0 a1 a2 w).mono fun _ _ h => ⟨h.1, 0, h.2⟩

end Go.Proofs.Ytekbcfgcojecmaa.P
