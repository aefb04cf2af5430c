import Derived.Test.YtgipepjpkmlmaaaM2
import Derived.Test.YtgipepjpkmlmaaaM1
namespace Go.Proofs.Ytgipepjpkmlmaaa.P
open Go.RowKit Go.Proofs.YtgipepjpkmlmaaaW.PrintWords Go.Proofs.YtgipepjpkmlmaaaW.PrintLast Go.Proofs.YtgipepjpkmlmaaaW.PrintMore
set_option linter.unusedVariables false
set_option linter.unusedSimpArgs false

attribute [local go_sem] max2_int min2_int max_two min_two
theorem plusR_calls (a b : Int) (ha0 : -9223372036854775808 ≤ a) (ha1 : a ≤ 9223372036854775807) (hb0 : -9223372036854775808 ≤ b) (hb1 : b ≤ 9223372036854775807) (w : World) :
    Calls Try.prog 82 #[.int .i64 a, .int .i64 b] w fun e w' => e = .returned (.int .i64 (plusP a b)) ∧ w' = w := by
  obtain ⟨r, hr⟩ : ∃ r, plusP a b = r := ⟨_, rfl⟩
  rw [hr]
  unfold plusP at hr
  obtain ⟨s, hs⟩ : ∃ s, wrap64 (a + b) = s := ⟨_, rfl⟩
  rw [hs] at hr
  by_cases c1 : 0 < b
  · have d1 : decide (0 < b) = true := decide_eq_true c1
    have d3 : decide (b < 0) = false := decide_eq_false (by omega)
    have hw : IntKind.i64.wrap (9223372036854775807 - b) = 9223372036854775807 - b := by rw [IntKind.wrap_i64]; omega
    by_cases c2 : 9223372036854775807 - b < a
    · have d2 : decide (9223372036854775807 - b < a) = true := decide_eq_true c2
      rw [if_pos ⟨c1, by rw [← hs]; unfold wrap64; omega⟩] at hr
      subst hr
      clear c1 c2 ha0 ha1 hb0 hb1
      go_enter Try.func82, Try.ntmps82
      go_wp2
      go_ret
      exact ⟨by first | rfl | (rw [← hs]; rfl), rfl⟩
    · have d2 : decide (9223372036854775807 - b < a) = false := decide_eq_false c2
      rw [if_neg (fun q => by have := q.2; rw [← hs] at this; unfold wrap64 at this; omega), if_neg (fun q => by omega)] at hr
      subst hr
      clear c1 c2 ha0 ha1 hb0 hb1
      go_enter Try.func82, Try.ntmps82
      go_wp2
      go_ret
      exact ⟨by first | rfl | (rw [← hs]; rfl), rfl⟩
  · have d1 : decide (0 < b) = false := decide_eq_false c1
    rw [if_neg (fun q => c1 q.1)] at hr
    by_cases c3 : b < 0
    · have d3 : decide (b < 0) = true := decide_eq_true c3
      have hw : IntKind.i64.wrap (-9223372036854775808 - b) = -9223372036854775808 - b := by rw [IntKind.wrap_i64]; omega
      by_cases c4 : a < -9223372036854775808 - b
      · have d4 : decide (a < -9223372036854775808 - b) = true := decide_eq_true c4
        rw [if_pos ⟨c3, by rw [← hs]; unfold wrap64; omega⟩] at hr
        subst hr
        clear c1 c3 c4 ha0 ha1 hb0 hb1
        go_enter Try.func82, Try.ntmps82
        go_wp2
        go_ret
        exact ⟨by first | rfl | (rw [← hs]; rfl), rfl⟩
      · have d4 : decide (a < -9223372036854775808 - b) = false := decide_eq_false c4
        rw [if_neg (fun q => by have := q.2; rw [← hs] at this; unfold wrap64 at this; omega)] at hr
        subst hr
        clear c1 c3 c4 ha0 ha1 hb0 hb1
        go_enter Try.func82, Try.ntmps82
        go_wp2
        go_ret
        exact ⟨by first | rfl | (rw [← hs]; rfl), rfl⟩
    · have d3 : decide (b < 0) = false := decide_eq_false c3
      rw [if_neg (fun q => c3 q.1)] at hr
      subst hr
      clear c1 c3 ha0 ha1 hb0 hb1
      go_enter Try.func82, Try.ntmps82
      go_wp2
      go_ret
      exact ⟨by first | rfl | (rw [← hs]; rfl), rfl⟩
theorem sortR_calls (v : Int) (w : World) : Calls Try.prog 83 #[.int .i64 v] w fun e w' => e = .returned (.int .i64 (sortN v : Nat)) ∧ w' = w := by
  obtain ⟨r, hr⟩ : ∃ r, sortN v = r := ⟨_, rfl⟩
  rw [hr]
  unfold sortN at hr
  by_cases c1 : v < 0
  · have d1 : decide (100 ≤ v) = false := decide_eq_false (by omega)
    have d2 : decide (10 ≤ v) = false := decide_eq_false (by omega)
    have d3 : decide (0 ≤ v) = false := decide_eq_false (by omega)
    rw [if_pos c1] at hr
    subst hr
    clear c1
    go_enter Try.func83, Try.ntmps83
    go_wp2
    go_ret
    exact ⟨rfl, rfl⟩
  rw [if_neg c1] at hr
  by_cases c2 : v < 10
  · have d1 : decide (100 ≤ v) = false := decide_eq_false (by omega)
    have d2 : decide (10 ≤ v) = false := decide_eq_false (by omega)
    have d3 : decide (0 ≤ v) = true := decide_eq_true (by omega)
    rw [if_pos c2] at hr
    subst hr
    clear c1 c2
    go_enter Try.func83, Try.ntmps83
    go_wp2
    go_ret
    exact ⟨rfl, rfl⟩
  rw [if_neg c2] at hr
  by_cases c3 : v < 100
  · have d1 : decide (100 ≤ v) = false := decide_eq_false (by omega)
    have d2 : decide (10 ≤ v) = true := decide_eq_true (by omega)
    rw [if_pos c3] at hr
    subst hr
    clear c1 c2 c3
    go_enter Try.func83, Try.ntmps83
    go_wp2
    go_ret
    exact ⟨rfl, rfl⟩
  have d1 : decide (100 ≤ v) = true := decide_eq_true (by omega)
  rw [if_neg c3] at hr
  subst hr
  clear c1 c2 c3
  go_enter Try.func83, Try.ntmps83
  go_wp2
  go_ret
  exact ⟨rfl, rfl⟩
/-- A window's numbers are machine words. -/
structure aggI (a : S44) : Prop where
  c0 : -9223372036854775808 ≤ a.f0
  c1 : a.f0 ≤ 9223372036854775807
  s0 : -9223372036854775808 ≤ a.f1
  s1 : a.f1 ≤ 9223372036854775807
  h : ∀ k, -9223372036854775808 ≤ hist a.f4 k ∧ hist a.f4 k ≤ 9223372036854775807
  r0 : -9223372036854775808 ≤ a.f5
  r1 : a.f5 ≤ 9223372036854775807
  i0 : -9223372036854775808 ≤ a.f6
  i1 : a.f6 ≤ 9223372036854775807
theorem plusP_range (a b : Int) : -9223372036854775808 ≤ plusP a b ∧ plusP a b ≤ 9223372036854775807 := by
  unfold plusP
  split
  · omega
  · split
    · omega
    · unfold wrap64; omega
theorem plusP_zero (a : Int) (h0 : -9223372036854775808 ≤ a) (h1 : a ≤ 9223372036854775807) : plusP a 0 = a := by
  unfold plusP
  rw [if_neg (by omega), if_neg (by omega)]
  unfold wrap64
  omega
theorem aggI_add {a : S44} (h : aggI a) (v : Int) : aggI (addP a v) := by
  have p := plusP_range
  refine ⟨(p _ _).1, (p _ _).2, (p _ _).1, (p _ _).2, fun k => ?_, (p _ _).1, (p _ _).2, (p _ _).1, (p _ _).2⟩
  have h0 := h.h 0
  have h1 := h.h 1
  have h2 := h.h 2
  have h3 := h.h 3
  have q := p (hist a.f4 (sortN v)) 1
  have e : hist (addP a v).f4 k = hist (setH a.f4 (sortN v) (plusP (hist a.f4 (sortN v)) 1)) k := rfl
  rw [e]
  revert q
  generalize plusP (hist a.f4 (sortN v)) 1 = z
  intro q
  unfold setH
  split <;> (unfold hist; split <;> first | exact q | exact h0 | exact h1 | exact h2 | exact h3)
set_option maxHeartbeats 16000000 in
set_option maxRecDepth 100000 in
/-- The reference's Add is fold.Add. -/
theorem addR_calls (a : S44) (v : Int) (hI : aggI a) (v0 : -9223372036854775808 ≤ v) (v1 : v ≤ 9223372036854775807) (w : World) :
    Calls Try.prog 51 #[aggV a, .int .i64 v] w fun e w' => e = .returned (aggV (addP a v)) ∧ Below w.heap.size w w' := by
  obtain ⟨A', hA⟩ : ∃ A', addP a v = A' := ⟨_, rfl⟩
  rw [hA]
  have hh0 := hI.h 0
  have hh1 := hI.h 1
  have hh2 := hI.h 2
  have hh3 := hI.h 3
  obtain ⟨c0, c1, s0, s1, _, r0, r1, i0, i1⟩ := hI
  obtain ⟨c, s, m, x, ⟨h0, h1, h2, h3⟩, re, im⟩ := a
  simp only [hist] at hh0 hh1 hh2 hh3 c0 c1 s0 s1 r0 r1 i0 i1
  unfold addP at hA
  simp only at hA
  have hu := Try.underlying44
  have hz : ∀ w, (zeroValue 44).run Try.prog w = .ok (.agg #[.int .i64 0, .int .i64 0, .int .i64 0, .int .i64 0, .int .i64 0, .int .i64 0, .int .i64 0, .int .i64 0, .int .i64 0, .int .i64 0]) w := fun w => by kernel_rfl
  have hsort := sortR_calls v
  have hk4 : sortN v = 0 ∨ sortN v = 1 ∨ sortN v = 2 ∨ sortN v = 3 := by unfold sortN; split <;> (try split) <;> (try split) <;> simp
  have hm4 : Int.tmod (wrap64 (Int.tmod v 4 + 4)) 4 = (((v % 4).toNat : Nat) : Int) := by
    have a1 := Int.tmod_lt_of_pos v (show (0 : Int) < 4 by omega)
    have a2 := Int.lt_tmod_of_pos v (show (0 : Int) < 4 by omega)
    have e : wrap64 (Int.tmod v 4 + 4) = Int.tmod v 4 + 4 := by unfold wrap64; omega
    rw [e, Int.tmod_eq_emod_of_nonneg (by omega)]
    have h1 := Int.mul_tdiv_add_tmod v 4
    omega
  have hq4 : (v % 4).toNat = 0 ∨ (v % 4).toNat = 1 ∨ (v % 4).toNat = 2 ∨ (v % 4).toNat = 3 := by omega
  have p1 := fun w => plusR_calls c 1 c0 c1 (by omega) (by omega) w
  have p2 := fun w => plusR_calls s v s0 s1 v0 v1 w
  have g0 := fun w => plusR_calls h0 1 hh0.1 hh0.2 (by omega) (by omega) w
  have g1 := fun w => plusR_calls h1 1 hh1.1 hh1.2 (by omega) (by omega) w
  have g2 := fun w => plusR_calls h2 1 hh2.1 hh2.2 (by omega) (by omega) w
  have g3 := fun w => plusR_calls h3 1 hh3.1 hh3.2 (by omega) (by omega) w
  have re1 := fun w => plusR_calls re 1 r0 r1 (by omega) (by omega) w
  have re2 := fun w => plusR_calls re (-1) r0 r1 (by omega) (by omega) w
  have im1 := fun w => plusR_calls im 1 i0 i1 (by omega) (by omega) w
  have im2 := fun w => plusR_calls im (-1) i0 i1 (by omega) (by omega) w
  have rez := plusP_zero re r0 r1
  have imz := plusP_zero im i0 i1
  obtain ⟨m2, hm2⟩ : ∃ j, mn (if c = 0 then v else m) v = j := ⟨_, rfl⟩
  obtain ⟨x2, hx2⟩ : ∃ j, mx (if c = 0 then v else x) v = j := ⟨_, rfl⟩
  rw [hm2, hx2] at hA
  have hm3 : (if c = 0 then v else if v < m then v else m) = m2 := by rw [← hm2]; unfold mn; split <;> (try split) <;> first | rfl | omega
  have hx3 : (if c = 0 then v else if x < v then v else x) = x2 := by rw [← hx2]; unfold mx; split <;> (try split) <;> first | rfl | omega
  clear hm2 hx2 hh0 hh1 hh2 hh3 c0 c1 s0 s1 r0 r1 i0 i1 v0 v1
  have HA := Lib.hid hA
  have HM := Lib.hid hm3
  have HX := Lib.hid hx3
  have HM4 := Lib.hid hm4
  have HRZ := Lib.hid rez
  have HIZ := Lib.hid imz
  clear hA hm3 hx3 hm4 rez imz
  revert hk4 hsort HA HM4 hq4
  generalize sortN v = k
  generalize (v % 4).toNat = q
  intro hsort hsk hqk HA HQM
  go_enter Try.func51, Try.ntmps51
  obtain ⟨B1, hB1⟩ : ∃ B, (c == 0 || decide (v < m)) = B := ⟨_, rfl⟩
  obtain ⟨B2, hB2⟩ : ∃ B, (c == 0 || decide (x < v)) = B := ⟨_, rfl⟩
  have HB1 := Lib.hid hB1
  have HB2 := Lib.hid hB2
  clear hB1 hB2
  go_upto_region 2 with fail
  go_cut [17] from 9 to 16 (fun v4 wc => v4 = .bool B1 ∧ wc = ((w.alloc (.cells #[.int .i64 c, .int .i64 s, .int .i64 m, .int .i64 x, .int .i64 h0, .int .i64 h1, .int .i64 h2, .int .i64 h3, .int .i64 re, .int .i64 im] 44)).alloc (.cells #[.int .i64 0, .int .i64 0, .int .i64 0, .int .i64 0, .int .i64 0, .int .i64 0, .int .i64 0, .int .i64 0, .int .i64 0, .int .i64 0] 44)).alloc (.cells #[.int .i64 c, .int .i64 s, .int .i64 m, .int .i64 x, .int .i64 h0, .int .i64 h1, .int .i64 h2, .int .i64 h3, .int .i64 re, .int .i64 im] 44))
  case first =>
    by_cases c0 : c = 0
    · subst c0
      have hb : true = B1 := HB1.out
      subst hb
      go_wp2
      go_meet
      case rel => exact ⟨rfl, rfl⟩
    · have d0 : (c == 0) = false := beq_eq_false_iff_ne.2 c0
      have hb := HB1.out
      rw [d0, Bool.false_or] at hb
      subst hb
      go_wp2
      go_meet
      case rel => exact ⟨rfl, rfl⟩
  case rest =>
    obtain ⟨rfl, rfl⟩ := hcut
    go_upto_if 17 with fail
    go_cut [4] from 18 to 19 (fun v4 wc => v4 = .pointer (some ⟨w.heap.size + 1, 0, none⟩) ∧ wc = ((w.alloc (.cells #[.int .i64 c, .int .i64 s, .int .i64 m, .int .i64 x, .int .i64 h0, .int .i64 h1, .int .i64 h2, .int .i64 h3, .int .i64 re, .int .i64 im] 44)).alloc (.cells #[.int .i64 0, .int .i64 0, .int .i64 0, .int .i64 0, .int .i64 0, .int .i64 0, .int .i64 0, .int .i64 0, .int .i64 0, .int .i64 0] 44)).alloc (.cells #[.int .i64 c, .int .i64 s, .int .i64 m2, .int .i64 x, .int .i64 h0, .int .i64 h1, .int .i64 h2, .int .i64 h3, .int .i64 re, .int .i64 im] 44))
    case first =>
      cases B1 with
      | true =>
        have hb := HB1.out
        have h : v = m2 := by
          have h := HM.out
          by_cases c0 : c = 0
          · rw [if_pos c0] at h; exact h
          · rw [if_neg c0] at h
            rw [beq_eq_false_iff_ne.2 c0, Bool.false_or] at hb
            rw [if_pos (of_decide_eq_true hb)] at h; exact h
        subst h
        clear hb
        go_wp2
        go_meet
        case rel => exact ⟨rfl, rfl⟩
      | false =>
        have hb := HB1.out
        have h : m = m2 := by
          have h := HM.out
          rw [Bool.or_eq_false_iff] at hb
          rw [if_neg (beq_eq_false_iff_ne.1 hb.1), if_neg (of_decide_eq_false hb.2)] at h; exact h
        subst h
        clear hb
        go_wp2
        go_meet
        case rel => exact ⟨rfl, rfl⟩
    case rest =>
      obtain ⟨rfl, rfl⟩ := hcut
      clear HM HB1
      go_upto_region 4 with fail
      go_cut [28] from 20 to 27 (fun v4 wc => v4 = .bool B2 ∧ wc = ((w.alloc (.cells #[.int .i64 c, .int .i64 s, .int .i64 m, .int .i64 x, .int .i64 h0, .int .i64 h1, .int .i64 h2, .int .i64 h3, .int .i64 re, .int .i64 im] 44)).alloc (.cells #[.int .i64 0, .int .i64 0, .int .i64 0, .int .i64 0, .int .i64 0, .int .i64 0, .int .i64 0, .int .i64 0, .int .i64 0, .int .i64 0] 44)).alloc (.cells #[.int .i64 c, .int .i64 s, .int .i64 m2, .int .i64 x, .int .i64 h0, .int .i64 h1, .int .i64 h2, .int .i64 h3, .int .i64 re, .int .i64 im] 44))
      case first =>
        by_cases c0 : c = 0
        · subst c0
          have hb : true = B2 := HB2.out
          subst hb
          go_wp2
          go_meet
          case rel => exact ⟨rfl, rfl⟩
        · have d0 : (c == 0) = false := beq_eq_false_iff_ne.2 c0
          have hb := HB2.out
          rw [d0, Bool.false_or] at hb
          subst hb
          go_wp2
          go_meet
          case rel => exact ⟨rfl, rfl⟩
      case rest =>
        obtain ⟨rfl, rfl⟩ := hcut
        go_upto_if 28 with fail
        go_cut [4] from 29 to 30 (fun v4 wc => v4 = .pointer (some ⟨w.heap.size + 1, 0, none⟩) ∧ wc = ((w.alloc (.cells #[.int .i64 c, .int .i64 s, .int .i64 m, .int .i64 x, .int .i64 h0, .int .i64 h1, .int .i64 h2, .int .i64 h3, .int .i64 re, .int .i64 im] 44)).alloc (.cells #[.int .i64 0, .int .i64 0, .int .i64 0, .int .i64 0, .int .i64 0, .int .i64 0, .int .i64 0, .int .i64 0, .int .i64 0, .int .i64 0] 44)).alloc (.cells #[.int .i64 c, .int .i64 s, .int .i64 m2, .int .i64 x2, .int .i64 h0, .int .i64 h1, .int .i64 h2, .int .i64 h3, .int .i64 re, .int .i64 im] 44))
        case first =>
          cases B2 with
          | true =>
            have hb := HB2.out
            have h : v = x2 := by
              have h := HX.out
              by_cases c0 : c = 0
              · rw [if_pos c0] at h; exact h
              · rw [if_neg c0] at h
                rw [beq_eq_false_iff_ne.2 c0, Bool.false_or] at hb
                rw [if_pos (of_decide_eq_true hb)] at h; exact h
            subst h
            clear hb
            go_wp2
            go_meet
            case rel => exact ⟨rfl, rfl⟩
          | false =>
            have hb := HB2.out
            have h : x = x2 := by
              have h := HX.out
              rw [Bool.or_eq_false_iff] at hb
              rw [if_neg (beq_eq_false_iff_ne.1 hb.1), if_neg (of_decide_eq_false hb.2)] at h; exact h
            subst h
            clear hb
            go_wp2
            go_meet
            case rel => exact ⟨rfl, rfl⟩
        case rest =>
          obtain ⟨rfl, rfl⟩ := hcut
          clear HX HB2
          obtain ⟨H, hH⟩ : ∃ H, setH ⟨h0, h1, h2, h3⟩ k (plusP (hist ⟨h0, h1, h2, h3⟩ k) 1) = H := ⟨_, rfl⟩
          have ha := HA.out
          rw [hH] at ha
          obtain ⟨H0, H1, H2, H3⟩ := H
          have HA2 := Lib.hid ha
          have HH := Lib.hid hH
          clear ha hH HA
          go_upto_region 9 with (first | (go_at_call 82; go_loud ((with_reducible refine (p1 _).mono ?_); rintro e w' ⟨rfl, rfl⟩)) | (go_at_call 82; go_loud ((with_reducible refine (p2 _).mono ?_); rintro e w' ⟨rfl, rfl⟩)) | (go_at_call 83; go_loud ((with_reducible refine (hsort _).mono ?_); rintro e w' ⟨rfl, rfl⟩)))
          go_cut [4] from 42 to 49 (fun v4 wc => v4 = .pointer (some ⟨w.heap.size + 1, 0, none⟩) ∧ wc = ((w.alloc (.cells #[.int .i64 c, .int .i64 s, .int .i64 m, .int .i64 x, .int .i64 h0, .int .i64 h1, .int .i64 h2, .int .i64 h3, .int .i64 re, .int .i64 im] 44)).alloc (.cells #[.int .i64 0, .int .i64 0, .int .i64 0, .int .i64 0, .int .i64 0, .int .i64 0, .int .i64 0, .int .i64 0, .int .i64 0, .int .i64 0] 44)).alloc (.cells #[.int .i64 (plusP c 1), .int .i64 (plusP s v), .int .i64 m2, .int .i64 x2, .int .i64 H0, .int .i64 H1, .int .i64 H2, .int .i64 H3, .int .i64 re, .int .i64 im] 44))
          case first =>
            rcases hsk with rfl | rfl | rfl | rfl
            · have hh := HH.out
              simp only [setH, hist, S42.mk.injEq] at hh
              obtain ⟨rfl, rfl, rfl, rfl⟩ := hh
              go_wp2_with (first | (go_at_call 82; go_loud ((with_reducible refine (g0 _).mono ?_); rintro e w' ⟨rfl, rfl⟩)))
              go_meet
              case rel => exact ⟨rfl, rfl⟩
            · have hh := HH.out
              simp only [setH, hist, S42.mk.injEq] at hh
              obtain ⟨rfl, rfl, rfl, rfl⟩ := hh
              go_wp2_with (first | (go_at_call 82; go_loud ((with_reducible refine (g1 _).mono ?_); rintro e w' ⟨rfl, rfl⟩)))
              go_meet
              case rel => exact ⟨rfl, rfl⟩
            · have hh := HH.out
              simp only [setH, hist, S42.mk.injEq] at hh
              obtain ⟨rfl, rfl, rfl, rfl⟩ := hh
              go_wp2_with (first | (go_at_call 82; go_loud ((with_reducible refine (g2 _).mono ?_); rintro e w' ⟨rfl, rfl⟩)))
              go_meet
              case rel => exact ⟨rfl, rfl⟩
            · have hh := HH.out
              simp only [setH, hist, S42.mk.injEq] at hh
              obtain ⟨rfl, rfl, rfl, rfl⟩ := hh
              go_wp2_with (first | (go_at_call 82; go_loud ((with_reducible refine (g3 _).mono ?_); rintro e w' ⟨rfl, rfl⟩)))
              go_meet
              case rel => exact ⟨rfl, rfl⟩
          case rest =>
            obtain ⟨rfl, rfl⟩ := hcut
            clear HH hsort p1 p2 g0 g1 g2 g3
            go_upto_region 10 with fail
            go_cut [7] from 50 to 53 (fun v7 wc => v7 = .int .i64 (q : Int) ∧ wc = ((w.alloc (.cells #[.int .i64 c, .int .i64 s, .int .i64 m, .int .i64 x, .int .i64 h0, .int .i64 h1, .int .i64 h2, .int .i64 h3, .int .i64 re, .int .i64 im] 44)).alloc (.cells #[.int .i64 0, .int .i64 0, .int .i64 0, .int .i64 0, .int .i64 0, .int .i64 0, .int .i64 0, .int .i64 0, .int .i64 0, .int .i64 0] 44)).alloc (.cells #[.int .i64 (plusP c 1), .int .i64 (plusP s v), .int .i64 m2, .int .i64 x2, .int .i64 H0, .int .i64 H1, .int .i64 H2, .int .i64 H3, .int .i64 re, .int .i64 im] 44))
            case first =>
              have hq := HQM.out
              go_wp2
              go_meet
              case rel => exact ⟨by first | rfl | rw [hq], rfl⟩
            case rest =>
              obtain ⟨rfl, rfl⟩ := hcut
              clear HQM
              rcases hqk with rfl | rfl | rfl | rfl
              · have ha := HA2.out
                simp only [reQ, imQ] at ha
                rw [HIZ.out] at ha
                subst ha
                go_wp2_with (first | (go_at_call 82; go_loud ((with_reducible refine (re1 _).mono ?_); rintro e w' ⟨rfl, rfl⟩)))
                refine bodyPost_ret (results_cell_row rfl _ _ (w.heap.size + 1) 44 #[.int .i64 (plusP c 1), .int .i64 (plusP s v), .int .i64 m2, .int .i64 x2, .int .i64 H0, .int .i64 H1, .int .i64 H2, .int .i64 H3, .int .i64 (plusP re 1), .int .i64 im] (0, 0) _ rfl ?_ Try.underlying44 rfl (by kernel_rfl)) rfl ?_
                · rw [Below.heap_alloc _ _ _ (by simp)]
                  exact heap_alloc2_new w _ _
                · exact ⟨rfl, below_alloc (below_alloc (below_alloc (Below.refl _ _) _) _) _⟩
              · have ha := HA2.out
                simp only [reQ, imQ] at ha
                rw [HRZ.out] at ha
                subst ha
                go_wp2_with (first | (go_at_call 82; go_loud ((with_reducible refine (im1 _).mono ?_); rintro e w' ⟨rfl, rfl⟩)))
                refine bodyPost_ret (results_cell_row rfl _ _ (w.heap.size + 1) 44 #[.int .i64 (plusP c 1), .int .i64 (plusP s v), .int .i64 m2, .int .i64 x2, .int .i64 H0, .int .i64 H1, .int .i64 H2, .int .i64 H3, .int .i64 re, .int .i64 (plusP im 1)] (0, 0) _ rfl ?_ Try.underlying44 rfl (by kernel_rfl)) rfl ?_
                · rw [Below.heap_alloc _ _ _ (by simp)]
                  exact heap_alloc2_new w _ _
                · exact ⟨rfl, below_alloc (below_alloc (below_alloc (Below.refl _ _) _) _) _⟩
              · have ha := HA2.out
                simp only [reQ, imQ] at ha
                rw [HIZ.out] at ha
                subst ha
                go_wp2_with (first | (go_at_call 82; go_loud ((with_reducible refine (re2 _).mono ?_); rintro e w' ⟨rfl, rfl⟩)))
                refine bodyPost_ret (results_cell_row rfl _ _ (w.heap.size + 1) 44 #[.int .i64 (plusP c 1), .int .i64 (plusP s v), .int .i64 m2, .int .i64 x2, .int .i64 H0, .int .i64 H1, .int .i64 H2, .int .i64 H3, .int .i64 (plusP re (-1)), .int .i64 im] (0, 0) _ rfl ?_ Try.underlying44 rfl (by kernel_rfl)) rfl ?_
                · rw [Below.heap_alloc _ _ _ (by simp)]
                  exact heap_alloc2_new w _ _
                · exact ⟨rfl, below_alloc (below_alloc (below_alloc (Below.refl _ _) _) _) _⟩
              · have ha := HA2.out
                simp only [reQ, imQ] at ha
                rw [HRZ.out] at ha
                subst ha
                go_wp2_with (first | (go_at_call 82; go_loud ((with_reducible refine (im2 _).mono ?_); rintro e w' ⟨rfl, rfl⟩)))
                refine bodyPost_ret (results_cell_row rfl _ _ (w.heap.size + 1) 44 #[.int .i64 (plusP c 1), .int .i64 (plusP s v), .int .i64 m2, .int .i64 x2, .int .i64 H0, .int .i64 H1, .int .i64 H2, .int .i64 H3, .int .i64 re, .int .i64 (plusP im (-1))] (0, 0) _ rfl ?_ Try.underlying44 rfl (by kernel_rfl)) rfl ?_
                · rw [Below.heap_alloc _ _ _ (by simp)]
                  exact heap_alloc2_new w _ _
                · exact ⟨rfl, below_alloc (below_alloc (below_alloc (Below.refl _ _) _) _) _⟩
end Go.Proofs.Ytgipepjpkmlmaaa.P
