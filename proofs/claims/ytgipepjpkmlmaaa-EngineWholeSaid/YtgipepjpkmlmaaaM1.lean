import Derived.Test.YtgipepjpkmlmaaaF0
import Derived.Lib.Hide
import Derived.Test.YtgipepjpkmlmaaaF79
import Derived.StillTailTactics
import Derived.ScopeJumps
import Derived.WalkMore
namespace Go.Proofs.Ytgipepjpkmlmaaa.P
set_option linter.unusedVariables false
set_option linter.unusedSimpArgs false
section
open Go.RowKit Go.Proofs.YtgipepjpkmlmaaaW.PrintWords Go.Proofs.YtgipepjpkmlmaaaW.PrintLast Go.Proofs.YtgipepjpkmlmaaaW.PrintMore
/-- From 0 to MaxNum. -/
def inB (n : Int) : Bool := decide (0 ≤ n) && decide (n ≤ 1099511627776)
theorem outs_calls (n : Int) (w : World) : Calls Try.prog 78 #[.int .i64 n] w fun e w' => e = .returned (.bool (!inB n)) ∧ w' = w := by
  by_cases c : n < 0
  · have d : decide (n < 0) = true := decide_eq_true c
    have e : inB n = false := by unfold inB; rw [decide_eq_false (by omega)]; rfl
    rw [e]
    clear c e
    go_enter Try.func78, Try.ntmps78
    go_wp2
    go_ret
    exact ⟨rfl, rfl⟩
  · have d : decide (n < 0) = false := decide_eq_false c
    by_cases c2 : n ≤ 1099511627776
    · have d2 : decide (1099511627776 < n) = false := decide_eq_false (by omega)
      have e : inB n = true := by unfold inB; rw [decide_eq_true (by omega), decide_eq_true c2]; rfl
      rw [e]
      clear c c2 e
      go_enter Try.func78, Try.ntmps78
      go_wp2
      go_ret
      exact ⟨rfl, rfl⟩
    · have d2 : decide (1099511627776 < n) = true := decide_eq_true (by omega)
      have e : inB n = false := by unfold inB; rw [decide_eq_false c2, Bool.and_false]
      rw [e]
      clear c c2 e
      go_enter Try.func78, Try.ntmps78
      go_wp2
      go_ret
      exact ⟨rfl, rfl⟩
/-- The first number that is out, from a place on. -/
def outAt (l : List Int) : Nat → Nat → Int
  | 0, _ => -1
  | k + 1, i => if inB (rd l (i : Int)) = true then outAt l k (i + 1) else (i : Int)
set_option maxHeartbeats 4000000 in
set_option maxRecDepth 100000 in
theorem index_calls (A : Option Addr) (c : Nat) (l : List Int) (w : World) (hr : (Kd.int .i64).C w A l.length l) (hc : l.length ≤ c) (hl : l.length ≤ 1000000) :
    Calls Try.prog 84 #[.slice A l.length c, .func (.func 78) #[] #[]] w fun e w' => e = .returned (.int .i64 (outAt l l.length 0)) ∧ w' = w := by
  go_enter Try.func84, Try.ntmps84
  go_wp2
  go_loopg [8] l.length (fun kq v8 wr => ∃ (i : Nat), v8 = .int .i64 (i : Int) ∧ i ≤ l.length ∧ l.length - i ≤ kq ∧ outAt l (l.length - i) i = outAt l l.length 0 ∧ wr = w)
  case atStart => exact ⟨0, rfl, Nat.zero_le _, by omega, rfl, rfl⟩
  case round =>
    obtain ⟨i, rfl, hil, hik, ho, rfl⟩ := hrel
    by_cases hlt : i < l.length
    rotate_left
    · have d1 : decide ((i : Int) < (l.length : Int)) = false := decide_eq_false (by omega)
      rw [show l.length - i = 0 by omega] at ho
      have HO := Lib.hid ho
      clear ho
      go_wp2
      go_ret
      exact ⟨by rw [← HO.out]; rfl, rfl⟩
    have d1 : decide ((i : Int) < (l.length : Int)) = true := decide_eq_true (by omega)
    obtain ⟨ad, rfl, hx⟩ := Kd.at_int hr (i : Int) (by omega) (by omega)
    rw [Int.toNat_natCast] at hx
    rw [show l.length - i = (l.length - (i + 1)) + 1 by omega] at ho
    simp only [outAt] at ho
    revert hx ho
    generalize rd l (i : Int) = n
    intro ho hx
    cases gk with
    | zero => omega
    | succ gk =>
    cases hn : inB n with
    | true =>
      rw [if_pos hn] at ho
      have HO := Lib.hid ho
      have hcall := outs_calls n wr
      rw [hn] at hcall
      clear ho hn
      go_wp2_with (first | (go_at_call 78; go_loud ((with_reducible refine hcall.mono ?_); rintro e w' ⟨rfl, rfl⟩)))
      go_roundg gk
      case measure => omega
      case rel => exact ⟨i + 1, by congr 1, by omega, by omega, HO.out, rfl⟩
    | false =>
      rw [if_neg (by rw [hn]; decide)] at ho
      have HO := Lib.hid ho
      have hcall := outs_calls n wr
      rw [hn] at hcall
      clear ho hn
      go_wp2_with (first | (go_at_call 78; go_loud ((with_reducible refine hcall.mono ?_); rintro e w' ⟨rfl, rfl⟩)))
      go_ret
      exact ⟨by rw [← HO.out]; rfl, rfl⟩
theorem outAt_all (l : List Int) : ∀ k i, i + k = l.length → (0 ≤ outAt l k i ↔ (l.drop i).all inB = false) := by
  intro k
  induction k with
  | zero => intro i h; rw [List.drop_of_length_le (by omega)]; simp [outAt]
  | succ k ih =>
    intro i h
    have e : rd l (i : Int) = l[i] := by simp [rd, List.getD, List.getElem?_eq_getElem (show i < l.length by omega)]
    have e2 : outAt l (k + 1) i = if inB (rd l (i : Int)) = true then outAt l k (i + 1) else (i : Int) := rfl
    rw [List.drop_eq_getElem_cons (by omega), List.all_cons, ← e, e2]
    by_cases c : inB (rd l (i : Int)) = true
    · rw [if_pos c, ih (i + 1) (by omega), c]; simp
    · rw [if_neg c, Bool.eq_false_iff.2 c]; simp
theorem within_calls (A : Option Addr) (c : Nat) (l : List Int) (w : World) (hr : (Kd.int .i64).C w A l.length l) (hc : l.length ≤ c) (hl : l.length ≤ 1000000) :
    Calls Try.prog 45 #[.slice A l.length c] w fun e w' => e = .returned (.bool (l.all inB)) ∧ w' = w := by
  have h77 : Calls Try.prog 77 #[.slice A l.length c, .func (.func 78) #[] #[]] w fun e w' => e = .returned (.bool (!(l.all inB))) ∧ w' = w := by
    have hx := index_calls A c l w hr hc hl
    have ha := outAt_all l l.length 0 (by omega)
    rw [List.drop_zero] at ha
    have hd : decide (0 ≤ outAt l l.length 0) = !(l.all inB) := by
      cases h : l.all inB with
      | true => rw [h] at ha; exact decide_eq_false (fun q => by have := ha.1 q; cases this)
      | false => exact decide_eq_true (ha.2 h)
    rw [← hd]
    clear ha hd
    go_enter Try.func77, Try.ntmps77
    go_wp2_with (first | (go_at_call 84; go_loud ((with_reducible refine hx.mono ?_); rintro e w' ⟨rfl, rfl⟩)))
    go_ret
    exact ⟨rfl, rfl⟩
  generalize hb : l.all inB = b at h77 ⊢
  clear hb
  go_enter Try.func45, Try.ntmps45
  go_wp2_with (first | (go_at_call 77; go_loud ((with_reducible refine h77.mono ?_); rintro e w' ⟨rfl, rfl⟩)))
  go_ret
  exact ⟨by cases b <;> rfl, rfl⟩
end
section
open Go.RowKit Go.Proofs.YtgipepjpkmlmaaaW.PrintWords Go.Proofs.YtgipepjpkmlmaaaW.PrintLast Go.Proofs.YtgipepjpkmlmaaaW.PrintMore
abbrev aggV (a : S44) : Value := .agg #[.int .i64 a.f0, .int .i64 a.f1, .int .i64 a.f2, .int .i64 a.f3, .int .i64 a.f4.f0, .int .i64 a.f4.f1, .int .i64 a.f4.f2, .int .i64 a.f4.f3, .int .i64 a.f5, .int .i64 a.f6]
def hist (h : S42) : Nat → Int
  | 0 => h.f0
  | 1 => h.f1
  | 2 => h.f2
  | _ => h.f3
/-- Whether all is well so far, and how many are left. -/
def aggSt (a : S44) : Nat → Bool × Int
  | 0 => (decide (1 ≤ a.f0) && (decide (a.f0 ≤ 1099511627776) && decide (a.f2 ≤ a.f3)), a.f0)
  | i + 1 => ((aggSt a i).1 && (decide (0 ≤ hist a.f4 i) && decide (hist a.f4 i ≤ (aggSt a i).2)), wrap64 ((aggSt a i).2 - hist a.f4 i))
/-- OK or ErrArg. -/
def argE (b : Bool) : Int := if b = true then 0 else 1
def farC (n c : Int) : Int × Bool := if n < wrap64 (-c) ∨ c < n then (0, false) else (mx n (wrap64 (-n)), true)
def aggOk (a : S44) : Bool := (aggSt a 4).1 && ((aggSt a 4).2 == 0 && ((farC a.f5 a.f0).2 && ((farC a.f6 a.f0).2 && decide (wrap64 ((farC a.f5 a.f0).1 + (farC a.f6 a.f0).1) ≤ a.f0))))
theorem far_calls (n c : Int) (w : World) : Calls Try.prog 79 #[.int .i64 n, .int .i64 c] w fun e w' => e = .returned (.tuple #[.int .i64 (farC n c).1, .bool (farC n c).2]) ∧ w' = w := by
  obtain ⟨r, hr⟩ : ∃ r, farC n c = r := ⟨_, rfl⟩
  rw [hr]
  unfold farC at hr
  by_cases h1 : n < wrap64 (-c)
  · rw [if_pos (.inl h1)] at hr
    subst hr
    have d1 : decide (n < wrap64 (-c)) = true := decide_eq_true h1
    go_enter Try.func79, Try.ntmps79
    go_wp2
    go_ret2
    exact ⟨rfl, rfl⟩
  · have d1 : decide (n < wrap64 (-c)) = false := decide_eq_false h1
    by_cases h2 : c < n
    · rw [if_pos (.inr h2)] at hr
      subst hr
      have d2 : decide (c < n) = true := decide_eq_true h2
      go_enter Try.func79, Try.ntmps79
      go_wp2
      go_ret2
      exact ⟨rfl, rfl⟩
    · rw [if_neg (fun q => q.elim h1 h2)] at hr
      subst hr
      have d2 : decide (c < n) = false := decide_eq_false h2
      clear h1 h2
      by_cases h3 : n < wrap64 (-n)
      · have e : mx n (wrap64 (-n)) = wrap64 (-n) := if_pos h3
        rw [e]
        go_enter Try.func79, Try.ntmps79
        go_wp2
        go_ret2
        exact ⟨rfl, rfl⟩
      · have e : mx n (wrap64 (-n)) = n := if_neg h3
        rw [e]
        go_enter Try.func79, Try.ntmps79
        go_wp2
        go_ret2
        exact ⟨rfl, rfl⟩
theorem idx42_0 (h0 h1 h2 h3 : Int) (w : World) : (Instr.index 42 (.agg #[.int .i64 h0, .int .i64 h1, .int .i64 h2, .int .i64 h3]) (.int .i64 0)).run Try.prog w = .ok (.int .i64 h0) w := by kernel_rfl
theorem idx42_1 (h0 h1 h2 h3 : Int) (w : World) : (Instr.index 42 (.agg #[.int .i64 h0, .int .i64 h1, .int .i64 h2, .int .i64 h3]) (.int .i64 1)).run Try.prog w = .ok (.int .i64 h1) w := by kernel_rfl
theorem idx42_2 (h0 h1 h2 h3 : Int) (w : World) : (Instr.index 42 (.agg #[.int .i64 h0, .int .i64 h1, .int .i64 h2, .int .i64 h3]) (.int .i64 2)).run Try.prog w = .ok (.int .i64 h2) w := by kernel_rfl
theorem idx42_3 (h0 h1 h2 h3 : Int) (w : World) : (Instr.index 42 (.agg #[.int .i64 h0, .int .i64 h1, .int .i64 h2, .int .i64 h3]) (.int .i64 3)).run Try.prog w = .ok (.int .i64 h3) w := by kernel_rfl
set_option maxHeartbeats 4000000 in
set_option maxRecDepth 100000 in
theorem aggCheck_calls (a : S44) (w : World) : Calls Try.prog 47 #[aggV a] w fun e w' => e = .returned (.int .i64 (argE (aggOk a))) ∧ Below w.heap.size w w' := by
  obtain ⟨s4, hs4⟩ : ∃ s, s = aggSt a 4 := ⟨_, rfl⟩
  have hok : aggOk a = (s4.1 && (s4.2 == 0 && ((farC a.f5 a.f0).2 && ((farC a.f6 a.f0).2 && decide (wrap64 ((farC a.f5 a.f0).1 + (farC a.f6 a.f0).1) ≤ a.f0))))) := by rw [hs4]; rfl
  have st0 : aggSt a 0 = (decide (1 ≤ a.f0) && (decide (a.f0 ≤ 1099511627776) && decide (a.f2 ≤ a.f3)), a.f0) := rfl
  have stS : ∀ i, aggSt a (i + 1) = ((aggSt a i).1 && (decide (0 ≤ hist a.f4 i) && decide (hist a.f4 i ≤ (aggSt a i).2)), wrap64 ((aggSt a i).2 - hist a.f4 i)) := fun _ => rfl
  have hf5 := far_calls a.f5 a.f0
  have hf6 := far_calls a.f6 a.f0
  revert st0 stS hs4 hok hf5 hf6
  generalize aggSt a = st
  generalize aggOk a = okA
  obtain ⟨n0, n1, n2, n3, ⟨h0, h1, h2, h3⟩, n5, n6⟩ := a
  simp only
  generalize farC n5 n0 = f5
  generalize farC n6 n0 = f6
  intro hs4 hok st0 stS hf5 hf6
  obtain ⟨H, hH⟩ : ∃ H : S42, H = ⟨h0, h1, h2, h3⟩ := ⟨_, rfl⟩
  have hX1 : (w.alloc (.cells #[.int .i64 n0, .int .i64 n1, .int .i64 n2, .int .i64 n3, .int .i64 h0, .int .i64 h1, .int .i64 h2, .int .i64 h3, .int .i64 n5, .int .i64 n6] 44)).heap[w.heap.size]? = some (.cells #[.int .i64 n0, .int .i64 n1, .int .i64 n2, .int .i64 n3, .int .i64 h0, .int .i64 h1, .int .i64 h2, .int .i64 h3, .int .i64 n5, .int .i64 n6] 44 (0, 0)) := heap_alloc_new _ _
  have hb1 : Below w.heap.size w (w.alloc (.cells #[.int .i64 n0, .int .i64 n1, .int .i64 n2, .int .i64 n3, .int .i64 h0, .int .i64 h1, .int .i64 h2, .int .i64 h3, .int .i64 n5, .int .i64 n6] 44)) := (Below.refl _ _).alloc (Nat.le_refl _) _
  have HX1 := Lib.hid hX1
  have S0 := Lib.hid st0
  have SS := Lib.hid stS
  have HS4 := Lib.hid hs4
  have HOk := Lib.hid hok
  clear st0 stS hs4 hok hX1 hH
  go_enter Try.func47, Try.ntmps47
  go_upto_region 2 with fail
  obtain ⟨W1, hW1⟩ : ∃ W1, W1 = w.alloc (.cells #[.int .i64 n0, .int .i64 n1, .int .i64 n2, .int .i64 n3, .int .i64 h0, .int .i64 h1, .int .i64 h2, .int .i64 h3, .int .i64 n5, .int .i64 n6] 44) := ⟨_, rfl⟩
  go_cut [4] (fun v4 wc => v4 = .bool (st 0).1 ∧ wc = w.alloc (.cells #[.int .i64 n0, .int .i64 n1, .int .i64 n2, .int .i64 n3, .int .i64 h0, .int .i64 h1, .int .i64 h2, .int .i64 h3, .int .i64 n5, .int .i64 n6] 44))
  case first =>
    clear SS HS4 HOk HX1 hW1
    by_cases c1 : 1 ≤ n0
    · have d1 : decide (1 ≤ n0) = true := decide_eq_true c1
      by_cases c2 : n0 ≤ 1099511627776
      · have d2 : decide (n0 ≤ 1099511627776) = true := decide_eq_true c2
        go_wp2
        go_meet
        case rel => exact ⟨by rw [S0.out]; simp only [d1, d2]; rfl, rfl⟩
      · have d2 : decide (n0 ≤ 1099511627776) = false := decide_eq_false c2
        go_wp2
        go_meet
        case rel => exact ⟨by rw [S0.out]; simp only [d1, d2]; rfl, rfl⟩
    · have d1 : decide (1 ≤ n0) = false := decide_eq_false c1
      go_wp2
      go_meet
      case rel => exact ⟨by rw [S0.out]; simp only [d1]; rfl, rfl⟩
  case rest =>
    obtain ⟨rfl, rfl⟩ := hcut
    have hX1 := HX1.out
    go_wp2_with fail
    go_loopg [30,4,3] 4 (fun kq v30 v4 v3 wr => ∃ (i : Nat), v30 = .int .i64 (i : Int) ∧ i ≤ 4 ∧ 4 - i ≤ kq ∧ v4 = .bool (st i).1 ∧ v3 = .int .i64 (st i).2 ∧ wr = w.alloc (.cells #[.int .i64 n0, .int .i64 n1, .int .i64 n2, .int .i64 n3, .int .i64 h0, .int .i64 h1, .int .i64 h2, .int .i64 h3, .int .i64 n5, .int .i64 n6] 44))
    case atStart => exact ⟨0, rfl, by omega, by omega, by first | rfl | (rw [S0.out]), by first | rfl | (rw [S0.out]), rfl⟩
    case round =>
      obtain ⟨i, rfl, hi4, hik, rfl, rfl, rfl⟩ := hrel
      by_cases hlt : i < 4
      rotate_left
      · have hi : i = 4 := by omega
        subst hi
        have e4 : st 4 = s4 := HS4.out.symm
        rw [e4]
        clear e4 HS4
        obtain ⟨b, t⟩ := s4
        have ho := HOk.out
        simp only at ho
        have HO := Lib.hid ho
        clear ho HOk S0 SS
        cases b with
        | false =>
          go_wp2
          go_ret
          exact ⟨by rw [HO.out]; rfl, hb1⟩
        | true =>
        by_cases ct : t = 0
        rotate_left
        · have d1 : (t == 0) = false := beq_eq_false_iff_ne.mpr ct
          have d2 : (t != 0) = true := bne_iff_ne.mpr ct
          go_wp2
          go_ret
          exact ⟨by rw [HO.out, d1]; rfl, hb1⟩
        have d1 : (t == 0) = true := beq_iff_eq.mpr ct
        have d2 : (t != 0) = false := bne_eq_false_iff_eq.mpr ct
        have ho := HO.out
        rw [d1] at ho
        simp only [Bool.true_and] at ho
        replace HO := Lib.hid ho
        clear ho ct
        obtain ⟨x, bx⟩ := f5
        obtain ⟨y, bY⟩ := f6
        simp only at hf5 hf6
        cases bx with
        | false =>
          go_wp2_with (first | (go_at_call 79; go_loud (first | (with_reducible refine (hf5 _).mono ?_) | (with_reducible refine (hf6 _).mono ?_)); (rintro e w' ⟨rfl, rfl⟩)))
          go_ret
          exact ⟨by rw [HO.out]; rfl, hb1⟩
        | true =>
        cases bY with
        | false =>
          go_wp2_with (first | (go_at_call 79; go_loud (first | (with_reducible refine (hf5 _).mono ?_) | (with_reducible refine (hf6 _).mono ?_)); (rintro e w' ⟨rfl, rfl⟩)))
          go_ret
          exact ⟨by rw [HO.out]; rfl, hb1⟩
        | true =>
        by_cases cd : wrap64 (x + y) ≤ n0
        · have d3 : decide (wrap64 (x + y) ≤ n0) = true := decide_eq_true cd
          have d4 : decide (n0 < wrap64 (x + y)) = false := decide_eq_false (by omega)
          go_wp2_with (first | (go_at_call 79; go_loud (first | (with_reducible refine (hf5 _).mono ?_) | (with_reducible refine (hf6 _).mono ?_)); (rintro e w' ⟨rfl, rfl⟩)))
          go_ret
          exact ⟨by rw [HO.out, d3]; rfl, hb1⟩
        · have d3 : decide (wrap64 (x + y) ≤ n0) = false := decide_eq_false cd
          have d4 : decide (n0 < wrap64 (x + y)) = true := decide_eq_true (by omega)
          go_wp2_with (first | (go_at_call 79; go_loud (first | (with_reducible refine (hf5 _).mono ?_) | (with_reducible refine (hf6 _).mono ?_)); (rintro e w' ⟨rfl, rfl⟩)))
          go_ret
          exact ⟨by rw [HO.out, d3]; rfl, hb1⟩
      cases gk with
      | zero => omega
      | succ gk =>
      have hi : i = 0 ∨ i = 1 ∨ i = 2 ∨ i = 3 := by omega
      rcases hi with rfl | rfl | rfl | rfl
      · have d0 : decide (((0 : Nat) : Int) < 4) = true := by decide
        have s1 := SS.out 0
        simp only [hist] at s1
        generalize hp : st 0 = p at s1 ⊢
        obtain ⟨b, t⟩ := p
        simp only at s1
        have S1 := Lib.hid s1
        clear s1 hp
        have ix := idx42_0 h0 h1 h2 h3
        cases b with
        | false =>
          go_wp2
          go_roundg gk
          case measure => omega
          case rel => exact ⟨0 + 1, by rfl, by omega, by omega, by rw [S1.out]; rfl, by rw [S1.out], rfl⟩
        | true =>
          by_cases c1 : 0 ≤ h0
          · have d1 : decide (0 ≤ h0) = true := decide_eq_true c1
            go_wp2
            go_roundg gk
            case measure => omega
            case rel => exact ⟨0 + 1, by rfl, by omega, by omega, by rw [S1.out]; simp only [d1, Bool.true_and, Bool.false_and, Bool.and_false], by rw [S1.out], rfl⟩
          · have d1 : decide (0 ≤ h0) = false := decide_eq_false c1
            go_wp2
            go_roundg gk
            case measure => omega
            case rel => exact ⟨0 + 1, by rfl, by omega, by omega, by rw [S1.out]; simp only [d1, Bool.true_and, Bool.false_and, Bool.and_false], by rw [S1.out], rfl⟩
      · have d0 : decide (((1 : Nat) : Int) < 4) = true := by decide
        have s1 := SS.out 1
        simp only [hist] at s1
        generalize hp : st 1 = p at s1 ⊢
        obtain ⟨b, t⟩ := p
        simp only at s1
        have S1 := Lib.hid s1
        clear s1 hp
        have ix := idx42_1 h0 h1 h2 h3
        cases b with
        | false =>
          go_wp2
          go_roundg gk
          case measure => omega
          case rel => exact ⟨1 + 1, by rfl, by omega, by omega, by rw [S1.out]; rfl, by rw [S1.out], rfl⟩
        | true =>
          by_cases c1 : 0 ≤ h1
          · have d1 : decide (0 ≤ h1) = true := decide_eq_true c1
            go_wp2
            go_roundg gk
            case measure => omega
            case rel => exact ⟨1 + 1, by rfl, by omega, by omega, by rw [S1.out]; simp only [d1, Bool.true_and, Bool.false_and, Bool.and_false], by rw [S1.out], rfl⟩
          · have d1 : decide (0 ≤ h1) = false := decide_eq_false c1
            go_wp2
            go_roundg gk
            case measure => omega
            case rel => exact ⟨1 + 1, by rfl, by omega, by omega, by rw [S1.out]; simp only [d1, Bool.true_and, Bool.false_and, Bool.and_false], by rw [S1.out], rfl⟩
      · have d0 : decide (((2 : Nat) : Int) < 4) = true := by decide
        have s1 := SS.out 2
        simp only [hist] at s1
        generalize hp : st 2 = p at s1 ⊢
        obtain ⟨b, t⟩ := p
        simp only at s1
        have S1 := Lib.hid s1
        clear s1 hp
        have ix := idx42_2 h0 h1 h2 h3
        cases b with
        | false =>
          go_wp2
          go_roundg gk
          case measure => omega
          case rel => exact ⟨2 + 1, by rfl, by omega, by omega, by rw [S1.out]; rfl, by rw [S1.out], rfl⟩
        | true =>
          by_cases c1 : 0 ≤ h2
          · have d1 : decide (0 ≤ h2) = true := decide_eq_true c1
            go_wp2
            go_roundg gk
            case measure => omega
            case rel => exact ⟨2 + 1, by rfl, by omega, by omega, by rw [S1.out]; simp only [d1, Bool.true_and, Bool.false_and, Bool.and_false], by rw [S1.out], rfl⟩
          · have d1 : decide (0 ≤ h2) = false := decide_eq_false c1
            go_wp2
            go_roundg gk
            case measure => omega
            case rel => exact ⟨2 + 1, by rfl, by omega, by omega, by rw [S1.out]; simp only [d1, Bool.true_and, Bool.false_and, Bool.and_false], by rw [S1.out], rfl⟩
      · have d0 : decide (((3 : Nat) : Int) < 4) = true := by decide
        have s1 := SS.out 3
        simp only [hist] at s1
        generalize hp : st 3 = p at s1 ⊢
        obtain ⟨b, t⟩ := p
        simp only at s1
        have S1 := Lib.hid s1
        clear s1 hp
        have ix := idx42_3 h0 h1 h2 h3
        cases b with
        | false =>
          go_wp2
          go_roundg gk
          case measure => omega
          case rel => exact ⟨3 + 1, by rfl, by omega, by omega, by rw [S1.out]; rfl, by rw [S1.out], rfl⟩
        | true =>
          by_cases c1 : 0 ≤ h3
          · have d1 : decide (0 ≤ h3) = true := decide_eq_true c1
            go_wp2
            go_roundg gk
            case measure => omega
            case rel => exact ⟨3 + 1, by rfl, by omega, by omega, by rw [S1.out]; simp only [d1, Bool.true_and, Bool.false_and, Bool.and_false], by rw [S1.out], rfl⟩
          · have d1 : decide (0 ≤ h3) = false := decide_eq_false c1
            go_wp2
            go_roundg gk
            case measure => omega
            case rel => exact ⟨3 + 1, by rfl, by omega, by omega, by rw [S1.out]; simp only [d1, Bool.true_and, Bool.false_and, Bool.and_false], by rw [S1.out], rfl⟩
end
section
open Go.RowKit Go.Proofs.YtgipepjpkmlmaaaW.PrintWords Go.Proofs.YtgipepjpkmlmaaaW.PrintLast Go.Proofs.YtgipepjpkmlmaaaW.PrintMore
def intOf : Value → Int | .int _ q => q | _ => 0
theorem wp_scope_label {P : Program} {a : Act} {w : World} {Q : Exit → Act → World → Prop} {c rest : Code} (l : Nat) (J : Act → World → Prop) (μ : Act → World → Nat) (hf : findLabel c l = some (Code.skip.seq rest))
    (first : (∀ a w, J a w → rest.wp P (Exit.jump l J Q) a w) → c.wp P (Exit.jump l J Q) a w)
    (pass : ∀ a w, J a w → rest.wp P (Exit.jump l (fun a' w' => J a' w' ∧ μ a' w' < μ a w) Q) a w) : (Code.scope c).wp P Q a w :=
  wp_scope_jumps l J μ hf (first fun a w h => Code.wp_mono (fun e a' w' hq => by
    cases e <;> first | exact hq | exact ⟨hq.1, hq.2.1⟩) (pass a w h)) fun a w h => wp_seq (wp_skip (pass a w h))
structure U68 where
  u7 : Value
  u8 : Value
  u9 : Value
  u10 : Value
  u11 : Value
  u12 : Value
  u13 : Value
  u14 : Value
  u15 : Value
  u16 : Value
  u17 : Value
  u18 : Value
  u19 : Value
  u20 : Value
  u21 : Value
  u22 : Value
  u23 : Value
  u24 : Value
  u25 : Value
  u26 : Value
  u27 : Value
  u28 : Value
  u29 : Value
  u30 : Value
  u31 : Value
  u32 : Value
  u33 : Value
  u34 : Value
  u35 : Value
  u36 : Value
  u37 : Value
  u38 : Value
  u39 : Value
  u40 : Value
  u41 : Value
  u42 : Value
  u43 : Value
  u44 : Value
  u45 : Value
  u46 : Value
  u47 : Value
  u48 : Value
  u49 : Value
  u50 : Value
  u51 : Value
  u52 : Value
  u53 : Value
  u54 : Value
  u55 : Value
/-- The number so far, with the bits of one byte more. -/
def tkOr (u c : Int) (k : Nat) : Int := bits .or .u64 u (IntKind.u64.wrap (IntKind.u64.wrap (bits .and .u8 c 127) * 2 ^ (7 * k)))
/-- The signed number. -/
def tkN (u : Int) : Int := bits .xor .i64 (wrap64 (u / 2)) (wrap64 (-(wrap64 (bits .and .u64 u 1))))
/-- What varint.Take answers, from byte k on, with u of those ahead of it. -/
def tkL (s : ByteArray) : Nat → Nat → Int → Int × ByteArray × Int
  | 0, _, _ => (0, ⟨#[]⟩, 2)
  | f + 1, k, u => if k = s.size ∨ k = 10 then (0, ⟨#[]⟩, 2) else
      if 128 ≤ bt s (k : Int) then tkL s f (k + 1) (tkOr u (bt s (k : Int)) k)
      else if (0 < k ∧ bt s (k : Int) = 0) ∨ (k = 9 ∧ 1 < bt s (k : Int)) then (0, ⟨#[]⟩, 2)
      else (tkN (tkOr u (bt s (k : Int)) k), s.extract (k + 1) s.size, 0)
set_option maxHeartbeats 8000000 in
set_option maxRecDepth 100000 in
theorem vtake_calls (s : ByteArray) (w : World) (hs : s.size ≤ 1000000000) : Calls Try.prog 68 #[.string s] w fun e w' => e = .returned (.tuple #[.int .i64 (tkL s 11 0 0).1, .string (tkL s 11 0 0).2.1, .int .i64 (tkL s 11 0 0).2.2]) ∧ Below w.heap.size w w' := by
  generalize hT : tkL s 11 0 0 = T
  obtain ⟨r1, r2, r3⟩ := T
  go_enter Try.func68, Try.ntmps68
  go_wp2
  refine wp_scope_label 0 (fun a' w' => ∃ (k : Nat) (u : Int) (v : U68), a' = { tmps := #[.string s, undef, .int .i64 0, .string ⟨#[]⟩, .int .i64 0, .int .u64 u, .int .i64 (k : Int), v.u7, v.u8, v.u9, v.u10, v.u11, v.u12, v.u13, v.u14, v.u15, v.u16, v.u17, v.u18, v.u19, v.u20, v.u21, v.u22, v.u23, v.u24, v.u25, v.u26, v.u27, v.u28, v.u29, v.u30, v.u31, v.u32, v.u33, v.u34, v.u35, v.u36, v.u37, v.u38, v.u39, v.u40, v.u41, v.u42, v.u43, v.u44, v.u45, v.u46, v.u47, v.u48, v.u49, v.u50, v.u51, v.u52, v.u53, v.u54, v.u55], defers := [] } ∧ k ≤ 10 ∧ k ≤ s.size ∧ tkL s (11 - k) k u = (r1, r2, r3) ∧ w' = w) (fun a' _ => 10 - (intOf (a'.tmps.getD 6 undef)).toNat) rfl ?_ ?_
  · intro hp
    go_wp2
    go_step3
    rename_i K hK
    refine hK _ _ (hp _ _ ⟨0, 0, ⟨_, _, _, _, _, _, _, _, _, _, _, _, _, _, _, _, _, _, _, _, _, _, _, _, _, _, _, _, _, _, _, _, _, _, _, _, _, _, _, _, _, _, _, _, _, _, _, _, _⟩, rfl, by omega, by omega, hT, rfl⟩)
  · rintro a' wr ⟨k, u, v, rfl, hk10, hks, hT, rfl⟩
    rw [show 11 - k = (10 - k) + 1 by omega] at hT
    simp only [tkL] at hT
    by_cases e0 : k = s.size
    · have d0 : ((k : Int) == (s.size : Int)) = true := beq_iff_eq.2 (by rw [e0])
      rw [if_pos (.inl e0)] at hT
      cases hT
      clear e0
      go_wp2
      simp only [Exit.jump]
      go_ret3
      exact ⟨rfl, Below.refl _ _⟩
    have d0 : ((k : Int) == (s.size : Int)) = false := beq_eq_false_iff_ne.2 (by omega)
    by_cases e1 : k = 10
    · subst e1
      rw [if_pos (.inr rfl)] at hT
      cases hT
      have d1 : (((10 : Nat) : Int) == 10) = true := by decide
      go_wp2
      simp only [Exit.jump]
      go_ret3
      exact ⟨rfl, Below.refl _ _⟩
    have d1 : ((k : Int) == 10) = false := beq_eq_false_iff_ne.2 (by omega)
    rw [if_neg (fun q => q.elim e0 e1)] at hT
    have hlt : k < s.size := by omega
    have hkk : (s[k]'hlt).toNat < 256 := (s[k]'hlt).toNat_lt
    have hbt : bt s (k : Int) = ((s[k]'hlt).toNat : Int) := by simp [bt, hlt]
    rw [hbt] at hT
    generalize hc : ((s[k]'hlt).toNat : Int) = c at hT
    have hc0 : 0 ≤ c ∧ c < 256 := by omega
    by_cases e2 : 128 ≤ c
    · rw [if_pos e2] at hT
      have HT := Lib.hid hT
      have d2 : decide (128 ≤ c) = true := decide_eq_true e2
      clear hT hbt e2
      go_wp2
      go_step3
      refine ⟨rfl, ⟨k + 1, tkOr u c k, ⟨_, _, _, _, _, _, _, _, _, _, _, _, _, _, _, _, _, _, _, _, _, _, _, _, _, _, _, _, _, _, _, _, _, _, _, _, _, _, _, _, _, _, _, _, _, _, _, _, _⟩, rfl, by omega, by omega, ?_, rfl⟩, ?_⟩
      · rw [show 11 - (k + 1) = 10 - k by omega]; exact HT.out
      · show 10 - (((k + 1 : Nat) : Int)).toNat < 10 - ((k : Int)).toNat
        omega
    rw [if_neg e2] at hT
    have d2 : decide (128 ≤ c) = false := decide_eq_false e2
    by_cases e3 : (0 < k ∧ c = 0) ∨ (k = 9 ∧ 1 < c)
    · rw [if_pos e3] at hT
      cases hT
      by_cases e4 : k = 0
      · subst e4
        have e5 : False := by omega
        exact e5.elim
      have d3 : decide (1 < (k : Int) + 1) = true := decide_eq_true (by omega)
      by_cases e5 : c = 0
      · have d4 : (c == 0) = true := beq_iff_eq.2 e5
        clear e3 hbt
        have d6 : ((k : Int) + 1 == 10) = ((k : Int) + 1 == 10) := rfl
        go_wp2
        simp only [Exit.jump]
        go_ret3
        exact ⟨rfl, Below.refl _ _⟩
      · have d4 : (c == 0) = false := beq_eq_false_iff_ne.2 e5
        have e6 : k = 9 := by omega
        subst e6
        have d5 : decide (1 < c) = true := decide_eq_true (by omega)
        clear e3 hbt
        go_wp2
        simp only [Exit.jump]
        go_ret3
        exact ⟨rfl, Below.refl _ _⟩
    · rw [if_neg e3] at hT
      have HT := Lib.hid hT
      clear hT hbt
      by_cases e4 : k = 0
      · have d3 : decide (1 < (k : Int) + 1) = false := decide_eq_false (by omega)
        have d9 : ((k : Int) + 1 == 10) = false := beq_eq_false_iff_ne.2 (by omega)
        clear e3 e4
        go_wp2
        go_region
        go_wp2
        simp only [Exit.jump]
        go_ret3
        have ho := HT.out
        cases ho
        exact ⟨rfl, below_drew (Below.refl _ _)⟩
      have d3 : decide (1 < (k : Int) + 1) = true := decide_eq_true (by omega)
      have d4 : (c == 0) = false := beq_eq_false_iff_ne.2 (by omega)
      by_cases e9 : k = 9
      · have d9 : ((k : Int) + 1 == 10) = true := beq_iff_eq.2 (by omega)
        have d5 : decide (1 < c) = false := decide_eq_false (by omega)
        clear e3 e4 e9
        go_wp2
        go_region
        go_wp2
        simp only [Exit.jump]
        go_ret3
        have ho := HT.out
        cases ho
        exact ⟨rfl, below_drew (Below.refl _ _)⟩
      · have d9 : ((k : Int) + 1 == 10) = false := beq_eq_false_iff_ne.2 (by omega)
        clear e3 e4 e9
        go_wp2
        go_region
        go_wp2
        simp only [Exit.jump]
        go_ret3
        have ho := HT.out
        cases ho
        exact ⟨rfl, below_drew (Below.refl _ _)⟩
end
section
open Go.RowKit Go.Proofs.YtgipepjpkmlmaaaW.PrintWords Go.Proofs.YtgipepjpkmlmaaaW.PrintLast Go.Proofs.YtgipepjpkmlmaaaW.PrintMore
/-- What engine.Value answers. -/
def valP (s : ByteArray) : Int × Bool := ((tkL s 11 0 0).1, (tkL s 11 0 0).2.2 == 0 && (tkL s 11 0 0).2.1.toList.isEmpty)
set_option maxHeartbeats 8000000 in
set_option maxRecDepth 100000 in
theorem value_calls (k t : Int) (s : ByteArray) (w : World) (hs : s.size ≤ 1000000000) : Calls Try.prog 53 #[.agg #[.int .i64 k, .int .i64 t, .string s]] w fun e w' => e = .returned (.tuple #[.int .i64 (valP s).1, .bool (valP s).2]) ∧ Below w.heap.size w w' := by
  have hcall := fun w => vtake_calls s w hs
  unfold valP
  generalize hT : tkL s 11 0 0 = T at hcall
  obtain ⟨r1, r2, r3⟩ := T
  simp only at hcall ⊢
  clear hT
  have hX1 : (w.alloc (.cells #[.int .i64 k, .int .i64 t, .string s] 50)).heap[w.heap.size]? = some (.cells #[.int .i64 k, .int .i64 t, .string s] 50 (0, 0)) := heap_alloc_new _ _
  have hb1 : Below w.heap.size w (w.alloc (.cells #[.int .i64 k, .int .i64 t, .string s] 50)) := (Below.refl _ _).alloc (Nat.le_refl _) _
  by_cases c : r3 = 0
  · have d : (r3 == 0) = true := beq_iff_eq.2 c
    rw [d]
    clear c
    go_enter Try.func53, Try.ntmps53
    go_wp2_with (first | (go_at_call 68; go_loud ((with_reducible refine (hcall _).mono ?_); rintro e w2 ⟨rfl, hb2⟩)))
    go_ret2
    exact ⟨rfl, below_step hb1 hb2⟩
  · have d : (r3 == 0) = false := beq_eq_false_iff_ne.2 c
    rw [d]
    clear c
    go_enter Try.func53, Try.ntmps53
    go_wp2_with (first | (go_at_call 68; go_loud ((with_reducible refine (hcall _).mono ?_); rintro e w2 ⟨rfl, hb2⟩)))
    go_ret2
    exact ⟨rfl, below_step hb1 hb2⟩
end
end Go.Proofs.Ytgipepjpkmlmaaa.P
