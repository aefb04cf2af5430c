-- Written by this session's program drv.py, by means of the kit's printer; not a text of print.sh.
import Derived.Test.YtdbccnhdblljbaaDoorF0
import Derived.Test.YtdbccnhdblljbaaDoorF50
import Derived.Test.YtdbccnhdblljbaaDoorF53
import Derived.Test.YtdbccnhdblljbaaDoorF55
namespace Go.Proofs.YtdbccnhdblljbaaDoor.P
open Go.RowKit Go.Proofs.YtdbccnhdblljbaaDoorW.PrintWords Go.Proofs.YtdbccnhdblljbaaDoorW.PrintLast Go.Proofs.YtdbccnhdblljbaaDoorW.PrintMore
attribute [local go_sem] max2_int min2_int max_two min_two max_three min_three max_four min_four   -- for this text's walks alone
set_option linter.unusedVariables false
set_option linter.unusedSimpArgs false

def lexSpace (c : Int) : Bool := c == 32 || c == 9 || c == 10 || c == 13
theorem lex_span1.p_calls (c : Int) (w : World) : Calls Tryd.prog 50 #[.int .u8 c] w fun e w' => e = .returned (.bool (lexSpace c)) ∧ Drawn0 w w' := by
  exact lex_space.calls c (lexSpace c) w (by unfold lex_space.f lexSpace; repeat' split
                                             all_goals simp_all)
/-- How far a text's bytes hold, from a place on; the first number bounds the rounds. -/
def lex_span1.go (s : ByteArray) : Nat → Int → Int
  | 0, i => i
  | k + 1, i => if lexSpace (bt s i) = true then lex_span1.go s k (i + 1) else i
def lex_span1.f (a0 : ByteArray) : Option Int := if a0.size ≤ 140737488351232 then some (lex_span1.go a0 a0.size 0) else none
set_option maxHeartbeats 1000000 in
theorem lex_span1.calls (a0 : ByteArray) (r : Int) (w : World) (h : lex_span1.f a0 = some r) :
    Calls Tryd.prog 51 #[.string a0, .func (.func 50) #[] #[]] w fun e w' => e = .returned (.int .i64 r) ∧ Drawn0 w w' := by
  unfold lex_span1.f at h
  split at h
  case isFalse => cases h
  case isTrue hs =>
  have HV0 := Aside0.mk (Option.some.inj h)
  clear h
  go_enter Tryd.func51, Tryd.ntmps51
  go_wp2
  go_loopg [5] a0.size (fun kq v5 w' => ∃ (i : Int), v5 = .int .i64 i ∧ 0 ≤ i ∧ Aside0 (i + kq = a0.size) ∧ Aside0 (lex_span1.go a0 kq i = r) ∧ Drawn0 w w')
  case atStart => exact ⟨0, rfl, by omega, ⟨by omega⟩, HV0, Drawn0.refl _⟩
  case round =>
    clear HV0
    obtain ⟨i, rfl, h0, hk, hv, ⟨m, rfl⟩⟩ := hrel
    cases gk with
    | zero =>
      have h1 := hk.out
      have c : decide (i < (a0.size : Int)) = false := decide_eq_false (by omega)
      have hv' := Aside0.mk hv.out
      clear hv
      go_wp2
      go_ret
      exact ⟨by rw [← hv'.out]; rfl, by repeat (first | exact Drawn0.refl _ | apply Drawn0.step)⟩
    | succ k =>
      have h1 := hk.out
      have c : decide (i < (a0.size : Int)) = true := decide_eq_true (by omega)
      have c2 : decide (0 ≤ i) = true := decide_eq_true (by omega)
      have p10 : 0 ≤ i := h0
      have q10 : i < (a0.size : Int) := by omega
      have hx10 := bt_at a0 i
      replace p10 := eq_true p10
      replace q10 := eq_true q10
      have HV := hv.out
      simp only [lex_span1.go] at HV
      by_cases e : lexSpace (bt a0 i) = true
      · rw [if_pos e] at HV
        have H' := Aside0.mk HV
        have E := Aside0.mk e
        clear HV hv e
        go_wp2_with (first | (go_at_call 50; (with_reducible refine (lex_span1.p_calls (bt a0 i) _).mono ?_); rintro e w' ⟨rfl, ⟨nd, rfl⟩⟩; rw [E.out]))
        go_roundg k
        case measure => omega
        case rel => exact ⟨i + 1, rfl, by omega, ⟨by omega⟩, H', by repeat (first | exact Drawn0.refl _ | apply Drawn0.step)⟩
      · replace e := Bool.eq_false_iff.mpr e
        rw [if_neg (by simp [e])] at HV
        have H' := Aside0.mk HV
        have E := Aside0.mk e
        clear HV hv e
        go_wp2_with (first | (go_at_call 50; (with_reducible refine (lex_span1.p_calls (bt a0 i) _).mono ?_); rintro e w' ⟨rfl, ⟨nd, rfl⟩⟩; rw [E.out]))
        go_ret
        exact ⟨by rw [← H'.out]; rfl, by repeat (first | exact Drawn0.refl _ | apply Drawn0.step)⟩

def lexOther (c : Int) : Bool := c != 10
theorem lex_span2.p_calls (c : Int) (w : World) : Calls Tryd.prog 52 #[.int .u8 c] w fun e w' => e = .returned (.bool (lexOther c)) ∧ Drawn0 w w' := by
  go_enter Tryd.func52, Tryd.ntmps52
  go_wp2
  go_ret
  exact ⟨rfl, Drawn0.refl _⟩
/-- How far a text's bytes hold, from a place on; the first number bounds the rounds. -/
def lex_span2.go (s : ByteArray) : Nat → Int → Int
  | 0, i => i
  | k + 1, i => if lexOther (bt s i) = true then lex_span2.go s k (i + 1) else i
def lex_span2.f (a0 : ByteArray) : Option Int := if a0.size ≤ 140737488351232 then some (lex_span2.go a0 a0.size 0) else none
set_option maxHeartbeats 1000000 in
theorem lex_span2.calls (a0 : ByteArray) (r : Int) (w : World) (h : lex_span2.f a0 = some r) :
    Calls Tryd.prog 51 #[.string a0, .func (.func 52) #[] #[]] w fun e w' => e = .returned (.int .i64 r) ∧ Drawn0 w w' := by
  unfold lex_span2.f at h
  split at h
  case isFalse => cases h
  case isTrue hs =>
  have HV0 := Aside0.mk (Option.some.inj h)
  clear h
  go_enter Tryd.func51, Tryd.ntmps51
  go_wp2
  go_loopg [5] a0.size (fun kq v5 w' => ∃ (i : Int), v5 = .int .i64 i ∧ 0 ≤ i ∧ Aside0 (i + kq = a0.size) ∧ Aside0 (lex_span2.go a0 kq i = r) ∧ Drawn0 w w')
  case atStart => exact ⟨0, rfl, by omega, ⟨by omega⟩, HV0, Drawn0.refl _⟩
  case round =>
    clear HV0
    obtain ⟨i, rfl, h0, hk, hv, ⟨m, rfl⟩⟩ := hrel
    cases gk with
    | zero =>
      have h1 := hk.out
      have c : decide (i < (a0.size : Int)) = false := decide_eq_false (by omega)
      have hv' := Aside0.mk hv.out
      clear hv
      go_wp2
      go_ret
      exact ⟨by rw [← hv'.out]; rfl, by repeat (first | exact Drawn0.refl _ | apply Drawn0.step)⟩
    | succ k =>
      have h1 := hk.out
      have c : decide (i < (a0.size : Int)) = true := decide_eq_true (by omega)
      have c2 : decide (0 ≤ i) = true := decide_eq_true (by omega)
      have p10 : 0 ≤ i := h0
      have q10 : i < (a0.size : Int) := by omega
      have hx10 := bt_at a0 i
      replace p10 := eq_true p10
      replace q10 := eq_true q10
      have HV := hv.out
      simp only [lex_span2.go] at HV
      by_cases e : lexOther (bt a0 i) = true
      · rw [if_pos e] at HV
        have H' := Aside0.mk HV
        have E := Aside0.mk e
        clear HV hv e
        go_wp2_with (first | (go_at_call 52; (with_reducible refine (lex_span2.p_calls (bt a0 i) _).mono ?_); rintro e w' ⟨rfl, ⟨nd, rfl⟩⟩; rw [E.out]))
        go_roundg k
        case measure => omega
        case rel => exact ⟨i + 1, rfl, by omega, ⟨by omega⟩, H', by repeat (first | exact Drawn0.refl _ | apply Drawn0.step)⟩
      · replace e := Bool.eq_false_iff.mpr e
        rw [if_neg (by simp [e])] at HV
        have H' := Aside0.mk HV
        have E := Aside0.mk e
        clear HV hv e
        go_wp2_with (first | (go_at_call 52; (with_reducible refine (lex_span2.p_calls (bt a0 i) _).mono ?_); rintro e w' ⟨rfl, ⟨nd, rfl⟩⟩; rw [E.out]))
        go_ret
        exact ⟨by rw [← H'.out]; rfl, by repeat (first | exact Drawn0.refl _ | apply Drawn0.step)⟩

def lexDigit (c : Int) : Bool := decide (48 ≤ c) && decide (c ≤ 57)
theorem lex_span3.p_calls (c : Int) (w : World) : Calls Tryd.prog 53 #[.int .u8 c] w fun e w' => e = .returned (.bool (lexDigit c)) ∧ Drawn0 w w' := by
  exact lex_digit.calls c (lexDigit c) w (by unfold lex_digit.f lexDigit; split <;> simp_all <;> omega)
/-- How far a text's bytes hold, from a place on; the first number bounds the rounds. -/
def lex_span3.go (s : ByteArray) : Nat → Int → Int
  | 0, i => i
  | k + 1, i => if lexDigit (bt s i) = true then lex_span3.go s k (i + 1) else i
def lex_span3.f (a0 : ByteArray) : Option Int := if a0.size ≤ 140737488351232 then some (lex_span3.go a0 a0.size 0) else none
set_option maxHeartbeats 1000000 in
theorem lex_span3.calls (a0 : ByteArray) (r : Int) (w : World) (h : lex_span3.f a0 = some r) :
    Calls Tryd.prog 51 #[.string a0, .func (.func 53) #[] #[]] w fun e w' => e = .returned (.int .i64 r) ∧ Drawn0 w w' := by
  unfold lex_span3.f at h
  split at h
  case isFalse => cases h
  case isTrue hs =>
  have HV0 := Aside0.mk (Option.some.inj h)
  clear h
  go_enter Tryd.func51, Tryd.ntmps51
  go_wp2
  go_loopg [5] a0.size (fun kq v5 w' => ∃ (i : Int), v5 = .int .i64 i ∧ 0 ≤ i ∧ Aside0 (i + kq = a0.size) ∧ Aside0 (lex_span3.go a0 kq i = r) ∧ Drawn0 w w')
  case atStart => exact ⟨0, rfl, by omega, ⟨by omega⟩, HV0, Drawn0.refl _⟩
  case round =>
    clear HV0
    obtain ⟨i, rfl, h0, hk, hv, ⟨m, rfl⟩⟩ := hrel
    cases gk with
    | zero =>
      have h1 := hk.out
      have c : decide (i < (a0.size : Int)) = false := decide_eq_false (by omega)
      have hv' := Aside0.mk hv.out
      clear hv
      go_wp2
      go_ret
      exact ⟨by rw [← hv'.out]; rfl, by repeat (first | exact Drawn0.refl _ | apply Drawn0.step)⟩
    | succ k =>
      have h1 := hk.out
      have c : decide (i < (a0.size : Int)) = true := decide_eq_true (by omega)
      have c2 : decide (0 ≤ i) = true := decide_eq_true (by omega)
      have p10 : 0 ≤ i := h0
      have q10 : i < (a0.size : Int) := by omega
      have hx10 := bt_at a0 i
      replace p10 := eq_true p10
      replace q10 := eq_true q10
      have HV := hv.out
      simp only [lex_span3.go] at HV
      by_cases e : lexDigit (bt a0 i) = true
      · rw [if_pos e] at HV
        have H' := Aside0.mk HV
        have E := Aside0.mk e
        clear HV hv e
        go_wp2_with (first | (go_at_call 53; (with_reducible refine (lex_span3.p_calls (bt a0 i) _).mono ?_); rintro e w' ⟨rfl, ⟨nd, rfl⟩⟩; rw [E.out]))
        go_roundg k
        case measure => omega
        case rel => exact ⟨i + 1, rfl, by omega, ⟨by omega⟩, H', by repeat (first | exact Drawn0.refl _ | apply Drawn0.step)⟩
      · replace e := Bool.eq_false_iff.mpr e
        rw [if_neg (by simp [e])] at HV
        have H' := Aside0.mk HV
        have E := Aside0.mk e
        clear HV hv e
        go_wp2_with (first | (go_at_call 53; (with_reducible refine (lex_span3.p_calls (bt a0 i) _).mono ?_); rintro e w' ⟨rfl, ⟨nd, rfl⟩⟩; rw [E.out]))
        go_ret
        exact ⟨by rw [← H'.out]; rfl, by repeat (first | exact Drawn0.refl _ | apply Drawn0.step)⟩

def lexLetter (c : Int) : Bool := (decide (97 ≤ c) && decide (c ≤ 122)) || c == 95
def lexPart (c : Int) : Bool := lexLetter c || lexDigit c
theorem lexLetter_f (c : Int) : lex_letter.f c = some (lexLetter c) := by
  unfold lex_letter.f lexLetter; repeat' split
  all_goals simp_all
  all_goals omega
theorem lexDigit_f (c : Int) : lex_digit.f c = some (lexDigit c) := by unfold lex_digit.f lexDigit; split <;> simp_all <;> omega
theorem lex_span4.p_calls (c : Int) (w : World) : Calls Tryd.prog 56 #[.int .u8 c] w fun e w' => e = .returned (.bool (lexPart c)) ∧ Drawn0 w w' := by
  by_cases h : lexLetter c = true
  · have E := Aside0.mk h
    have E2 : Aside0 (lexPart c = true) := ⟨by unfold lexPart; rw [h]; rfl⟩
    clear h
    go_enter Tryd.func56, Tryd.ntmps56
    go_wp2_with (first | (go_at_call 55; (with_reducible refine (lex_letter.calls c true _ (by rw [lexLetter_f, E.out])).mono ?_); rintro e w' ⟨rfl, ⟨nd, rfl⟩⟩))
    go_ret
    exact ⟨by rw [E2.out]; rfl, by repeat (first | exact Drawn0.refl _ | apply Drawn0.step)⟩
  · replace h := Bool.eq_false_iff.mpr h
    have E := Aside0.mk h
    have E2 : Aside0 (lexPart c = lexDigit c) := ⟨by unfold lexPart; rw [h]; rfl⟩
    clear h
    go_enter Tryd.func56, Tryd.ntmps56
    go_wp2_with (first | (go_at_call 55; (with_reducible refine (lex_letter.calls c false _ (by rw [lexLetter_f, E.out])).mono ?_); rintro e w' ⟨rfl, ⟨nd, rfl⟩⟩) | (go_at_call 53; (with_reducible refine (lex_digit.calls c (lexDigit c) _ (lexDigit_f c)).mono ?_); rintro e w' ⟨rfl, ⟨nd, rfl⟩⟩))
    go_ret
    exact ⟨by rw [E2.out]; rfl, by repeat (first | exact Drawn0.refl _ | apply Drawn0.step)⟩
/-- How far a text's bytes hold, from a place on; the first number bounds the rounds. -/
def lex_span4.go (s : ByteArray) : Nat → Int → Int
  | 0, i => i
  | k + 1, i => if lexPart (bt s i) = true then lex_span4.go s k (i + 1) else i
def lex_span4.f (a0 : ByteArray) : Option Int := if a0.size ≤ 140737488351232 then some (lex_span4.go a0 a0.size 0) else none
set_option maxHeartbeats 1000000 in
theorem lex_span4.calls (a0 : ByteArray) (r : Int) (w : World) (h : lex_span4.f a0 = some r) :
    Calls Tryd.prog 51 #[.string a0, .func (.func 56) #[] #[]] w fun e w' => e = .returned (.int .i64 r) ∧ Drawn0 w w' := by
  unfold lex_span4.f at h
  split at h
  case isFalse => cases h
  case isTrue hs =>
  have HV0 := Aside0.mk (Option.some.inj h)
  clear h
  go_enter Tryd.func51, Tryd.ntmps51
  go_wp2
  go_loopg [5] a0.size (fun kq v5 w' => ∃ (i : Int), v5 = .int .i64 i ∧ 0 ≤ i ∧ Aside0 (i + kq = a0.size) ∧ Aside0 (lex_span4.go a0 kq i = r) ∧ Drawn0 w w')
  case atStart => exact ⟨0, rfl, by omega, ⟨by omega⟩, HV0, Drawn0.refl _⟩
  case round =>
    clear HV0
    obtain ⟨i, rfl, h0, hk, hv, ⟨m, rfl⟩⟩ := hrel
    cases gk with
    | zero =>
      have h1 := hk.out
      have c : decide (i < (a0.size : Int)) = false := decide_eq_false (by omega)
      have hv' := Aside0.mk hv.out
      clear hv
      go_wp2
      go_ret
      exact ⟨by rw [← hv'.out]; rfl, by repeat (first | exact Drawn0.refl _ | apply Drawn0.step)⟩
    | succ k =>
      have h1 := hk.out
      have c : decide (i < (a0.size : Int)) = true := decide_eq_true (by omega)
      have c2 : decide (0 ≤ i) = true := decide_eq_true (by omega)
      have p10 : 0 ≤ i := h0
      have q10 : i < (a0.size : Int) := by omega
      have hx10 := bt_at a0 i
      replace p10 := eq_true p10
      replace q10 := eq_true q10
      have HV := hv.out
      simp only [lex_span4.go] at HV
      by_cases e : lexPart (bt a0 i) = true
      · rw [if_pos e] at HV
        have H' := Aside0.mk HV
        have E := Aside0.mk e
        clear HV hv e
        go_wp2_with (first | (go_at_call 56; (with_reducible refine (lex_span4.p_calls (bt a0 i) _).mono ?_); rintro e w' ⟨rfl, ⟨nd, rfl⟩⟩; rw [E.out]))
        go_roundg k
        case measure => omega
        case rel => exact ⟨i + 1, rfl, by omega, ⟨by omega⟩, H', by repeat (first | exact Drawn0.refl _ | apply Drawn0.step)⟩
      · replace e := Bool.eq_false_iff.mpr e
        rw [if_neg (by simp [e])] at HV
        have H' := Aside0.mk HV
        have E := Aside0.mk e
        clear HV hv e
        go_wp2_with (first | (go_at_call 56; (with_reducible refine (lex_span4.p_calls (bt a0 i) _).mono ?_); rintro e w' ⟨rfl, ⟨nd, rfl⟩⟩; rw [E.out]))
        go_ret
        exact ⟨by rw [← H'.out]; rfl, by repeat (first | exact Drawn0.refl _ | apply Drawn0.step)⟩

end Go.Proofs.YtdbccnhdblljbaaDoor.P
