import Derived.Test.YtgipepjpkmlmaaaM9
import Derived.Test.YtgipepjpkmlmaaaE26
namespace Go.Proofs.Ytgipepjpkmlmaaa.P
open Go.RowKit Go.Proofs.YtgipepjpkmlmaaaW.PrintWords Go.Proofs.YtgipepjpkmlmaaaW.PrintLast Go.Proofs.YtgipepjpkmlmaaaW.PrintMore
set_option linter.unusedVariables false
set_option linter.unusedSimpArgs false

theorem inR_calls (n : Int) (w : World) : Calls Try.prog 66 #[.int .i64 n] w fun e w' => e = .returned (.bool (inB n)) ∧ w' = w := by
  obtain ⟨b, hb⟩ : ∃ b, inB n = b := ⟨_, rfl⟩
  rw [hb]
  unfold inB at hb
  by_cases c1 : 0 ≤ n
  · have d1 : decide (0 ≤ n) = true := decide_eq_true c1
    rw [d1, Bool.true_and] at hb
    subst hb
    go_enter Try.func66, Try.ntmps66
    go_wp2
    go_ret
    exact ⟨rfl, rfl⟩
  · have d1 : decide (0 ≤ n) = false := decide_eq_false c1
    rw [d1, Bool.false_and] at hb
    subst hb
    go_enter Try.func66, Try.ntmps66
    go_wp2
    go_ret
    exact ⟨rfl, rfl⟩
/-- Does a window stand ahead of another one? -/
def aheadB (x y : S46) : Bool := decide (x.f1 < y.f1) || ((x.f1 == y.f1) && decide (x.f0 < y.f0))
theorem aheadB_iff (x y : S46) : aheadB x y = true ↔ ltC x y := by
  unfold aheadB ltC
  simp
theorem aheadR_calls (x y : S46) (w : World) : Calls Try.prog 64 #[cellV x, cellV y] w fun e w' => e = .returned (.bool (aheadB x y)) ∧ Below w.heap.size w w' := by
  obtain ⟨b, hb⟩ : ∃ b, aheadB x y = b := ⟨_, rfl⟩
  rw [hb]
  unfold aheadB at hb
  by_cases c1 : x.f1 < y.f1
  · have d1 : decide (x.f1 < y.f1) = true := decide_eq_true c1
    rw [d1, Bool.true_or] at hb
    subst hb
    go_enter Try.func64, Try.ntmps64
    go_wp2
    go_ret
    exact ⟨rfl, below_alloc (below_alloc (Below.refl _ _) _) _⟩
  · have d1 : decide (x.f1 < y.f1) = false := decide_eq_false c1
    rw [d1, Bool.false_or] at hb
    by_cases c2 : x.f1 = y.f1
    · have d2 : (x.f1 == y.f1) = true := beq_iff_eq.2 c2
      rw [d2, Bool.true_and] at hb
      clear c1 c2
      subst hb
      go_enter Try.func64, Try.ntmps64
      go_wp2
      go_ret
      exact ⟨rfl, below_alloc (below_alloc (Below.refl _ _) _) _⟩
    · have d2 : (x.f1 == y.f1) = false := beq_eq_false_iff_ne.2 c2
      rw [d2, Bool.false_and] at hb
      subst hb
      go_enter Try.func64, Try.ntmps64
      go_wp2
      go_ret
      exact ⟨rfl, below_alloc (below_alloc (Below.refl _ _) _) _⟩
/-! ### ref14.May says no, too -/
theorem may_l0_no (g : S23) (h0 : 1 ≤ g.f0) (f0 : 1 ≤ g.f1) (f1 : g.f1 ≤ 1048576) : ∀ (n k : Nat) (i : Int), 1 ≤ i → (9 - i).toNat = n → i ≤ 9 → (∀ j : Int, i ≤ j → j ≤ 8 → j * g.f1 ≠ g.f0) → n < k → headgateref14_May.l0 k i g.f0 g.f1 g.f2 = some false := by
  intro n
  induction n with
  | zero =>
    intro k i hi hn h9 hj hk
    obtain ⟨k, rfl⟩ : ∃ j, k = j + 1 := ⟨k - 1, by omega⟩
    rw [headgateref14_May.l0, if_neg (by omega)]
  | succ n ih =>
    intro k i hi hn h9 hj hk
    obtain ⟨k, rfl⟩ : ∃ j, k = j + 1 := ⟨k - 1, by omega⟩
    have hm := Int.mul_le_mul_of_nonneg_right (show i ≤ 8 by omega) (show 0 ≤ g.f1 by omega)
    have hm0 := Int.mul_nonneg (show 0 ≤ i by omega) (show 0 ≤ g.f1 by omega)
    have hw : wrap64 (i * g.f1) = i * g.f1 := by unfold wrap64; omega
    rw [headgateref14_May.l0, if_pos (by omega), hw, if_neg (hj i (Int.le_refl _) (by omega)), show wrap64 (i + 1) = i + 1 by unfold wrap64; omega]
    exact ih k (i + 1) (by omega) (by omega) (by omega) (fun j h1 h2 => hj j (by omega) h2) (by omega)
theorem may_no (g : S23) (hg : chkG g = false) : headgateref14_May.f 12 g.f0 g.f1 g.f2 = some false := by
  unfold chkG at hg
  have hg' := of_decide_eq_false hg
  unfold headgateref14_May.f
  by_cases c1 : g.f0 < 1
  · rw [if_pos c1, headgateref14_May.j0, if_pos rfl]
  rw [if_neg c1]
  by_cases c2 : g.f0 > 1048576
  · rw [if_pos c2, headgateref14_May.j0, if_pos rfl]
  rw [if_neg c2]
  by_cases c3 : g.f1 < 1
  · rw [if_pos c3, headgateref14_May.j0, if_pos rfl]
  rw [if_neg c3]
  by_cases c4 : g.f1 > g.f0
  · rw [if_pos c4, headgateref14_May.j0, if_pos rfl]
  rw [if_neg c4]
  by_cases c5 : g.f2 < 0
  · rw [if_pos c5, headgateref14_May.j0, if_pos rfl]
  rw [if_neg c5]
  by_cases c6 : g.f2 > 1048576
  · rw [decide_eq_true c6, headgateref14_May.j0, if_pos rfl]
  rw [decide_eq_false c6, headgateref14_May.j0, if_neg (by decide)]
  refine may_l0_no g (by omega) (by omega) (by omega) 8 11 1 (by omega) rfl (by omega) (fun j h1 h2 e => hg' ?_) (by omega)
  have e1 : Int.tmod g.f0 g.f1 = 0 := by rw [← e]; exact Int.mul_tmod_left _ _
  have e2 : Int.tdiv g.f0 g.f1 = j := by rw [← e]; exact Int.mul_tdiv_cancel _ (by omega)
  rw [e2]
  exact ⟨by omega, by omega, by omega, by omega, e1, by unfold wrap64; omega, by omega, by omega⟩
theorem may14_no (g : S23) (hg : chkG g = false) (w : World) : Calls Try.prog 24 #[gridV g] w fun e w' => e = .returned (.bool false) ∧ Below w.heap.size w w' := headgateref14_May.calls 12 g.f0 g.f1 g.f2 false w (may_no g hg)
theorem may14_yes (g : S23) (hg : chkG g = true) (w : World) : Calls Try.prog 24 #[gridV g] w fun e w' => e = .returned (.bool true) ∧ Below w.heap.size w w' := headgateref14_May.calls 10 g.f0 g.f1 g.f2 true w (may_ref g hg)
/-! ### ref15.May -/
def sumH (h0 h1 h2 h3 : Int) : Nat → Int
  | 0 => 0
  | 1 => h0
  | 2 => h0 + h1
  | 3 => h0 + h1 + h2
  | _ => h0 + h1 + h2 + h3
set_option maxHeartbeats 16000000 in
set_option maxRecDepth 100000 in
theorem may15_calls (a : S44) (h : aggW a) (hc1 : 1 ≤ a.f0) (w : World) : Calls Try.prog 67 #[aggV a] w fun e w' => e = .returned (.bool true) ∧ Below w.heap.size w w' := by
  obtain ⟨q0, q1, q2, q3, q4, q5, q6, q7, q8, q9, q10, q11⟩ := h
  obtain ⟨c, s, m, x, ⟨h0, h1, h2, h3⟩, re, im⟩ := a
  simp only at q0 q1 q2 q3 q4 q5 q6 q7 q8 q9 q10 q11 hc1
  have hu := Try.underlying44
  have b0 : decide (c < 1) = false := decide_eq_false (by omega)
  have b1 : decide (1099511627776 < c) = false := decide_eq_false (by omega)
  have b2 : decide (x < m) = false := decide_eq_false (by omega)
  go_enter Try.func67, Try.ntmps67
  go_upto_region 4 with fail
  go_wp2
  go_loopg [3, 4] 4 (fun kq v3 v4 WX => ∃ (k : Nat), k ≤ 4 ∧ v4 = .int .i64 (k : Int) ∧ v3 = .int .i64 (sumH h0 h1 h2 h3 k) ∧ 4 - k ≤ kq ∧ WX = (w.alloc (.cells #[.int .i64 c, .int .i64 s, .int .i64 m, .int .i64 x, .int .i64 h0, .int .i64 h1, .int .i64 h2, .int .i64 h3, .int .i64 re, .int .i64 im] 44)))
  case atStart => exact ⟨0, by omega, rfl, rfl, by omega, rfl⟩
  case round =>
    obtain ⟨k, hk, rfl, rfl, hkq, rfl⟩ := hrel
    by_cases hk4 : k = 4
    · subst hk4
      have e : sumH h0 h1 h2 h3 4 = c := q6
      rw [e]
      have b3 : decide (re < -1099511627776) = false := decide_eq_false (by omega)
      have b4 : decide (1099511627776 < re) = false := decide_eq_false (by omega)
      have b5 : decide (im < -1099511627776) = false := decide_eq_false (by omega)
      have b6 : decide (1099511627776 < im) = false := decide_eq_false (by omega)
      have b7 : (c == c) = true := beq_self_eq_true c
      go_upto_region 12 with fail
      obtain ⟨WX, hWX⟩ : ∃ W, W = (w.alloc (.cells #[.int .i64 c, .int .i64 s, .int .i64 m, .int .i64 x, .int .i64 h0, .int .i64 h1, .int .i64 h2, .int .i64 h3, .int .i64 re, .int .i64 im] 44)) := ⟨_, rfl⟩
      have hblk : WX.heap[w.heap.size]? = some (.cells #[.int .i64 c, .int .i64 s, .int .i64 m, .int .i64 x, .int .i64 h0, .int .i64 h1, .int .i64 h2, .int .i64 h3, .int .i64 re, .int .i64 im] 44 (0, 0)) := by rw [hWX]; exact heap_alloc_new _ _
      have hbl : Below w.heap.size w WX := by rw [hWX]; exact below_alloc (Below.refl _ _) _
      rw [← hWX]
      have HRE := Lib.hid (show WX.cell? ⟨w.heap.size, 8, none⟩ = some (.int .i64 re) from (blk_cell hblk 8).trans rfl)
      have HIM := Lib.hid (show WX.cell? ⟨w.heap.size, 9, none⟩ = some (.int .i64 im) from (blk_cell hblk 9).trans rfl)
      have HC := Lib.hid (show WX.cell? ⟨w.heap.size, 0, none⟩ = some (.int .i64 c) from (blk_cell hblk 0).trans rfl)
      have HBL := Lib.hid hbl
      clear hWX hblk hbl b0 b1 b2 b3 b4 b5 b6 b7 e
      refine wp_region_held_drew (S := fun w_ => Below WX.heap.size WX w_) (by kernel_rfl) (below_drew (Below.refl _ _)) (fun hS_ => ?_)
      have hS : Below WX.heap.size WX _ := hS_
      clear hS_
      change wpAnyH _ _ _ _ _ 6 #[false, false, false, false, false, false] _ _
      refine takeE 0 (some 68) #[true, false, false, false, false, false] hS ?_
      refine takeE 1 (some 69) #[true, true, false, false, false, false] hS ?_ (hy := fun w_ hS_ => by (replace hS_ : Below WX.heap.size WX w_ := hS_); have a0_ := below_cell hS_ HRE.out; go_simp <;> with_reducible rfl)
      refine takeE 2 (some 70) #[true, true, true, false, false, false] hS ?_
      refine takeE 3 (some 71) #[true, true, true, true, false, false] hS ?_ (hy := fun w_ hS_ => by (replace hS_ : Below WX.heap.size WX w_ := hS_); have a1_ := below_cell hS_ HIM.out; go_simp <;> with_reducible rfl)
      refine takeE 4 (some 5) #[true, true, true, true, true, false] hS ?_
      refine takeE 5 (some 6) #[true, true, true, true, true, true] hS ?_
      refine wpAnyH_done (by kernel_rfl) ?_ _
      try go_simp
      have hS2 := Lib.hid hS
      have z0 := below_cell hS HC.out
      clear hS
      have w0 : wrap64 (-re) = -re := by unfold wrap64; omega
      have w1 : wrap64 (-im) = -im := by unfold wrap64; omega
      by_cases s0 : re < 0
      · have d0 : decide (re < 0) = true := decide_eq_true s0
        by_cases s1 : im < 0
        · have d1 : decide (im < 0) = true := decide_eq_true s1
          have w2 : wrap64 (-re + -im) = -re + -im := by unfold wrap64; omega
          have d2 : decide (-re + -im ≤ c) = true := decide_eq_true (by omega)
          go_wp2
          go_ret
          exact ⟨rfl, HBL.out.trans (hS2.out.mono HBL.out.size)⟩
        · have d1 : decide (im < 0) = false := decide_eq_false s1
          have w2 : wrap64 (-re + im) = -re + im := by unfold wrap64; omega
          have d2 : decide (-re + im ≤ c) = true := decide_eq_true (by omega)
          go_wp2
          go_ret
          exact ⟨rfl, HBL.out.trans (hS2.out.mono HBL.out.size)⟩
      · have d0 : decide (re < 0) = false := decide_eq_false s0
        by_cases s1 : im < 0
        · have d1 : decide (im < 0) = true := decide_eq_true s1
          have w2 : wrap64 (re + -im) = re + -im := by unfold wrap64; omega
          have d2 : decide (re + -im ≤ c) = true := decide_eq_true (by omega)
          go_wp2
          go_ret
          exact ⟨rfl, HBL.out.trans (hS2.out.mono HBL.out.size)⟩
        · have d1 : decide (im < 0) = false := decide_eq_false s1
          have w2 : wrap64 (re + im) = re + im := by unfold wrap64; omega
          have d2 : decide (re + im ≤ c) = true := decide_eq_true (by omega)
          go_wp2
          go_ret
          exact ⟨rfl, HBL.out.trans (hS2.out.mono HBL.out.size)⟩
    · have hlt : decide ((k : Int) < 4) = true := decide_eq_true (by omega)
      cases gk with
      | zero => omega
      | succ gk =>
      have hkk : k = 0 ∨ k = 1 ∨ k = 2 ∨ k = 3 := by omega
      rcases hkk with rfl | rfl | rfl | rfl
      · have e0 : decide (h0 < 0) = false := decide_eq_false (by omega)
        have e1 : decide (1099511627776 < h0) = false := decide_eq_false (by omega)
        have e2 : wrap64 (sumH h0 h1 h2 h3 0 + h0) = sumH h0 h1 h2 h3 1 := by simp only [sumH]; unfold wrap64; omega
        go_wp2
        go_roundg gk
        case measure => omega
        case rel => exact ⟨1, by omega, rfl, by first | rfl | (rw [← e2]; rfl) | (rw [← e2]), by omega, rfl⟩
      · have e0 : decide (h1 < 0) = false := decide_eq_false (by omega)
        have e1 : decide (1099511627776 < h1) = false := decide_eq_false (by omega)
        have e2 : wrap64 (sumH h0 h1 h2 h3 1 + h1) = sumH h0 h1 h2 h3 2 := by simp only [sumH]; unfold wrap64; omega
        go_wp2
        go_roundg gk
        case measure => omega
        case rel => exact ⟨2, by omega, rfl, by first | rfl | (rw [← e2]; rfl) | (rw [← e2]), by omega, rfl⟩
      · have e0 : decide (h2 < 0) = false := decide_eq_false (by omega)
        have e1 : decide (1099511627776 < h2) = false := decide_eq_false (by omega)
        have e2 : wrap64 (sumH h0 h1 h2 h3 2 + h2) = sumH h0 h1 h2 h3 3 := by simp only [sumH]; unfold wrap64; omega
        go_wp2
        go_roundg gk
        case measure => omega
        case rel => exact ⟨3, by omega, rfl, by first | rfl | (rw [← e2]; rfl) | (rw [← e2]), by omega, rfl⟩
      · have e0 : decide (h3 < 0) = false := decide_eq_false (by omega)
        have e1 : decide (1099511627776 < h3) = false := decide_eq_false (by omega)
        have e2 : wrap64 (sumH h0 h1 h2 h3 3 + h3) = sumH h0 h1 h2 h3 4 := by simp only [sumH]; unfold wrap64; omega
        go_wp2
        go_roundg gk
        case measure => omega
        case rel => exact ⟨4, by omega, rfl, by first | rfl | (rw [← e2]; rfl) | (rw [← e2]), by omega, rfl⟩
end Go.Proofs.Ytgipepjpkmlmaaa.P
