import Derived.Test.YtgipepjpkmlmaaaM9
import Derived.Test.YtgipepjpkmlmaaaE26
namespace Go.Proofs.Ytgipepjpkmlmaaa.P
set_option linter.unusedVariables false
set_option linter.unusedSimpArgs false
section
open Go.RowKit Go.Proofs.YtgipepjpkmlmaaaW.PrintWords Go.Proofs.YtgipepjpkmlmaaaW.PrintLast Go.Proofs.YtgipepjpkmlmaaaW.PrintMore

theorem inR_calls (n : Int) (w : World) : Calls Try.prog 66 #[.int .i64 n] w fun e w' => e = .returned (.bool (inB n)) ∧ w' = w := by
  obtain ⟨b, hb⟩ : ∃ b, inB n = b := ⟨_, rfl⟩
  rw [hb]
  unfold inB at hb
  by_cases c1 : 0 ≤ n
  · have d1 : decide (0 ≤ n) = true := decide_eq_true c1
    rw [d1, Bool.true_and] at hb
    subst hb
    go_enter Try.func66, Try.ntmps66
    go_wp2
    go_ret
    exact ⟨rfl, rfl⟩
  · have d1 : decide (0 ≤ n) = false := decide_eq_false c1
    rw [d1, Bool.false_and] at hb
    subst hb
    go_enter Try.func66, Try.ntmps66
    go_wp2
    go_ret
    exact ⟨rfl, rfl⟩
/-- Does a window stand ahead of another one? -/
def aheadB (x y : S46) : Bool := decide (x.f1 < y.f1) || ((x.f1 == y.f1) && decide (x.f0 < y.f0))
theorem aheadB_iff (x y : S46) : aheadB x y = true ↔ ltC x y := by
  unfold aheadB ltC
  simp
theorem aheadR_calls (x y : S46) (w : World) : Calls Try.prog 64 #[cellV x, cellV y] w fun e w' => e = .returned (.bool (aheadB x y)) ∧ Below w.heap.size w w' := by
  obtain ⟨b, hb⟩ : ∃ b, aheadB x y = b := ⟨_, rfl⟩
  rw [hb]
  unfold aheadB at hb
  by_cases c1 : x.f1 < y.f1
  · have d1 : decide (x.f1 < y.f1) = true := decide_eq_true c1
    rw [d1, Bool.true_or] at hb
    subst hb
    go_enter Try.func64, Try.ntmps64
    go_wp2
    go_ret
    exact ⟨rfl, below_alloc (below_alloc (Below.refl _ _) _) _⟩
  · have d1 : decide (x.f1 < y.f1) = false := decide_eq_false c1
    rw [d1, Bool.false_or] at hb
    by_cases c2 : x.f1 = y.f1
    · have d2 : (x.f1 == y.f1) = true := beq_iff_eq.2 c2
      rw [d2, Bool.true_and] at hb
      clear c1 c2
      subst hb
      go_enter Try.func64, Try.ntmps64
      go_wp2
      go_ret
      exact ⟨rfl, below_alloc (below_alloc (Below.refl _ _) _) _⟩
    · have d2 : (x.f1 == y.f1) = false := beq_eq_false_iff_ne.2 c2
      rw [d2, Bool.false_and] at hb
      subst hb
      go_enter Try.func64, Try.ntmps64
      go_wp2
      go_ret
      exact ⟨rfl, below_alloc (below_alloc (Below.refl _ _) _) _⟩
/-! ### ref14.May says no, too -/
theorem may_l0_no (g : S23) (h0 : 1 ≤ g.f0) (f0 : 1 ≤ g.f1) (f1 : g.f1 ≤ 1048576) : ∀ (n k : Nat) (i : Int), 1 ≤ i → (9 - i).toNat = n → i ≤ 9 → (∀ j : Int, i ≤ j → j ≤ 8 → j * g.f1 ≠ g.f0) → n < k → headgateref14_May.l0 k i g.f0 g.f1 g.f2 = some false := by
  intro n
  induction n with
  | zero =>
    intro k i hi hn h9 hj hk
    obtain ⟨k, rfl⟩ : ∃ j, k = j + 1 := ⟨k - 1, by omega⟩
    rw [headgateref14_May.l0, if_neg (by omega)]
  | succ n ih =>
    intro k i hi hn h9 hj hk
    obtain ⟨k, rfl⟩ : ∃ j, k = j + 1 := ⟨k - 1, by omega⟩
    have hm := Int.mul_le_mul_of_nonneg_right (show i ≤ 8 by omega) (show 0 ≤ g.f1 by omega)
    have hm0 := Int.mul_nonneg (show 0 ≤ i by omega) (show 0 ≤ g.f1 by omega)
    have hw : wrap64 (i * g.f1) = i * g.f1 := by unfold wrap64; omega
    rw [headgateref14_May.l0, if_pos (by omega), hw, if_neg (hj i (Int.le_refl _) (by omega)), show wrap64 (i + 1) = i + 1 by unfold wrap64; omega]
    exact ih k (i + 1) (by omega) (by omega) (by omega) (fun j h1 h2 => hj j (by omega) h2) (by omega)
theorem may_no (g : S23) (hg : chkG g = false) : headgateref14_May.f 12 g.f0 g.f1 g.f2 = some false := by
  unfold chkG at hg
  have hg' := of_decide_eq_false hg
  unfold headgateref14_May.f
  by_cases c1 : g.f0 < 1
  · rw [if_pos c1, headgateref14_May.j0, if_pos rfl]
  rw [if_neg c1]
  by_cases c2 : g.f0 > 1048576
  · rw [if_pos c2, headgateref14_May.j0, if_pos rfl]
  rw [if_neg c2]
  by_cases c3 : g.f1 < 1
  · rw [if_pos c3, headgateref14_May.j0, if_pos rfl]
  rw [if_neg c3]
  by_cases c4 : g.f1 > g.f0
  · rw [if_pos c4, headgateref14_May.j0, if_pos rfl]
  rw [if_neg c4]
  by_cases c5 : g.f2 < 0
  · rw [if_pos c5, headgateref14_May.j0, if_pos rfl]
  rw [if_neg c5]
  by_cases c6 : g.f2 > 1048576
  · rw [decide_eq_true c6, headgateref14_May.j0, if_pos rfl]
  rw [decide_eq_false c6, headgateref14_May.j0, if_neg (by decide)]
  refine may_l0_no g (by omega) (by omega) (by omega) 8 11 1 (by omega) rfl (by omega) (fun j h1 h2 e => hg' ?_) (by omega)
  have e1 : Int.tmod g.f0 g.f1 = 0 := by rw [← e]; exact Int.mul_tmod_left _ _
  have e2 : Int.tdiv g.f0 g.f1 = j := by rw [← e]; exact Int.mul_tdiv_cancel _ (by omega)
  rw [e2]
  exact ⟨by omega, by omega, by omega, by omega, e1, by unfold wrap64; omega, by omega, by omega⟩
theorem may14_no (g : S23) (hg : chkG g = false) (w : World) : Calls Try.prog 24 #[gridV g] w fun e w' => e = .returned (.bool false) ∧ Below w.heap.size w w' := headgateref14_May.calls 12 g.f0 g.f1 g.f2 false w (may_no g hg)
theorem may14_yes (g : S23) (hg : chkG g = true) (w : World) : Calls Try.prog 24 #[gridV g] w fun e w' => e = .returned (.bool true) ∧ Below w.heap.size w w' := headgateref14_May.calls 10 g.f0 g.f1 g.f2 true w (may_ref g hg)
/-! ### ref15.May -/
def sumH (h0 h1 h2 h3 : Int) : Nat → Int
  | 0 => 0
  | 1 => h0
  | 2 => h0 + h1
  | 3 => h0 + h1 + h2
  | _ => h0 + h1 + h2 + h3
set_option maxHeartbeats 16000000 in
set_option maxRecDepth 100000 in
theorem may15_calls (a : S44) (h : aggW a) (hc1 : 1 ≤ a.f0) (w : World) : Calls Try.prog 67 #[aggV a] w fun e w' => e = .returned (.bool true) ∧ Below w.heap.size w w' := by
  obtain ⟨q0, q1, q2, q3, q4, q5, q6, q7, q8, q9, q10, q11⟩ := h
  obtain ⟨c, s, m, x, ⟨h0, h1, h2, h3⟩, re, im⟩ := a
  simp only at q0 q1 q2 q3 q4 q5 q6 q7 q8 q9 q10 q11 hc1
  have hu := Try.underlying44
  have b0 : decide (c < 1) = false := decide_eq_false (by omega)
  have b1 : decide (1099511627776 < c) = false := decide_eq_false (by omega)
  have b2 : decide (x < m) = false := decide_eq_false (by omega)
  go_enter Try.func67, Try.ntmps67
  go_upto_region 4 with fail
  go_wp2
  go_loopg [3, 4] 4 (fun kq v3 v4 WX => ∃ (k : Nat), k ≤ 4 ∧ v4 = .int .i64 (k : Int) ∧ v3 = .int .i64 (sumH h0 h1 h2 h3 k) ∧ 4 - k ≤ kq ∧ WX = (w.alloc (.cells #[.int .i64 c, .int .i64 s, .int .i64 m, .int .i64 x, .int .i64 h0, .int .i64 h1, .int .i64 h2, .int .i64 h3, .int .i64 re, .int .i64 im] 44)))
  case atStart => exact ⟨0, by omega, rfl, rfl, by omega, rfl⟩
  case round =>
    obtain ⟨k, hk, rfl, rfl, hkq, rfl⟩ := hrel
    by_cases hk4 : k = 4
    · subst hk4
      have e : sumH h0 h1 h2 h3 4 = c := q6
      rw [e]
      have b3 : decide (re < -1099511627776) = false := decide_eq_false (by omega)
      have b4 : decide (1099511627776 < re) = false := decide_eq_false (by omega)
      have b5 : decide (im < -1099511627776) = false := decide_eq_false (by omega)
      have b6 : decide (1099511627776 < im) = false := decide_eq_false (by omega)
      have b7 : (c == c) = true := beq_self_eq_true c
      go_upto_region 12 with fail
      obtain ⟨WX, hWX⟩ : ∃ W, W = (w.alloc (.cells #[.int .i64 c, .int .i64 s, .int .i64 m, .int .i64 x, .int .i64 h0, .int .i64 h1, .int .i64 h2, .int .i64 h3, .int .i64 re, .int .i64 im] 44)) := ⟨_, rfl⟩
      have hblk : WX.heap[w.heap.size]? = some (.cells #[.int .i64 c, .int .i64 s, .int .i64 m, .int .i64 x, .int .i64 h0, .int .i64 h1, .int .i64 h2, .int .i64 h3, .int .i64 re, .int .i64 im] 44 (0, 0)) := by rw [hWX]; exact heap_alloc_new _ _
      have hbl : Below w.heap.size w WX := by rw [hWX]; exact below_alloc (Below.refl _ _) _
      rw [← hWX]
      have HRE := Lib.hid (show WX.cell? ⟨w.heap.size, 8, none⟩ = some (.int .i64 re) from (blk_cell hblk 8).trans rfl)
      have HIM := Lib.hid (show WX.cell? ⟨w.heap.size, 9, none⟩ = some (.int .i64 im) from (blk_cell hblk 9).trans rfl)
      have HC := Lib.hid (show WX.cell? ⟨w.heap.size, 0, none⟩ = some (.int .i64 c) from (blk_cell hblk 0).trans rfl)
      have HBL := Lib.hid hbl
      clear hWX hblk hbl b0 b1 b2 b3 b4 b5 b6 b7 e
      refine wp_region_held_drew (S := fun w_ => Below WX.heap.size WX w_) (by kernel_rfl) (below_drew (Below.refl _ _)) (fun hS_ => ?_)
      have hS : Below WX.heap.size WX _ := hS_
      clear hS_
      change wpAnyH _ _ _ _ _ 6 #[false, false, false, false, false, false] _ _
      refine takeE 0 (some 68) #[true, false, false, false, false, false] hS ?_
      refine takeE 1 (some 69) #[true, true, false, false, false, false] hS ?_ (hy := fun w_ hS_ => by (replace hS_ : Below WX.heap.size WX w_ := hS_); have a0_ := below_cell hS_ HRE.out; go_simp <;> with_reducible rfl)
      refine takeE 2 (some 70) #[true, true, true, false, false, false] hS ?_
      refine takeE 3 (some 71) #[true, true, true, true, false, false] hS ?_ (hy := fun w_ hS_ => by (replace hS_ : Below WX.heap.size WX w_ := hS_); have a1_ := below_cell hS_ HIM.out; go_simp <;> with_reducible rfl)
      refine takeE 4 (some 5) #[true, true, true, true, true, false] hS ?_
      refine takeE 5 (some 6) #[true, true, true, true, true, true] hS ?_
      refine wpAnyH_done (by kernel_rfl) ?_ _
      try go_simp
      have hS2 := Lib.hid hS
      have z0 := below_cell hS HC.out
      clear hS
      have w0 : wrap64 (-re) = -re := by unfold wrap64; omega
      have w1 : wrap64 (-im) = -im := by unfold wrap64; omega
      by_cases s0 : re < 0
      · have d0 : decide (re < 0) = true := decide_eq_true s0
        by_cases s1 : im < 0
        · have d1 : decide (im < 0) = true := decide_eq_true s1
          have w2 : wrap64 (-re + -im) = -re + -im := by unfold wrap64; omega
          have d2 : decide (-re + -im ≤ c) = true := decide_eq_true (by omega)
          go_wp2
          go_ret
          exact ⟨rfl, HBL.out.trans (hS2.out.mono HBL.out.size)⟩
        · have d1 : decide (im < 0) = false := decide_eq_false s1
          have w2 : wrap64 (-re + im) = -re + im := by unfold wrap64; omega
          have d2 : decide (-re + im ≤ c) = true := decide_eq_true (by omega)
          go_wp2
          go_ret
          exact ⟨rfl, HBL.out.trans (hS2.out.mono HBL.out.size)⟩
      · have d0 : decide (re < 0) = false := decide_eq_false s0
        by_cases s1 : im < 0
        · have d1 : decide (im < 0) = true := decide_eq_true s1
          have w2 : wrap64 (re + -im) = re + -im := by unfold wrap64; omega
          have d2 : decide (re + -im ≤ c) = true := decide_eq_true (by omega)
          go_wp2
          go_ret
          exact ⟨rfl, HBL.out.trans (hS2.out.mono HBL.out.size)⟩
        · have d1 : decide (im < 0) = false := decide_eq_false s1
          have w2 : wrap64 (re + im) = re + im := by unfold wrap64; omega
          have d2 : decide (re + im ≤ c) = true := decide_eq_true (by omega)
          go_wp2
          go_ret
          exact ⟨rfl, HBL.out.trans (hS2.out.mono HBL.out.size)⟩
    · have hlt : decide ((k : Int) < 4) = true := decide_eq_true (by omega)
      cases gk with
      | zero => omega
      | succ gk =>
      have hkk : k = 0 ∨ k = 1 ∨ k = 2 ∨ k = 3 := by omega
      rcases hkk with rfl | rfl | rfl | rfl
      · have e0 : decide (h0 < 0) = false := decide_eq_false (by omega)
        have e1 : decide (1099511627776 < h0) = false := decide_eq_false (by omega)
        have e2 : wrap64 (sumH h0 h1 h2 h3 0 + h0) = sumH h0 h1 h2 h3 1 := by simp only [sumH]; unfold wrap64; omega
        go_wp2
        go_roundg gk
        case measure => omega
        case rel => exact ⟨1, by omega, rfl, by first | rfl | (rw [← e2]; rfl) | (rw [← e2]), by omega, rfl⟩
      · have e0 : decide (h1 < 0) = false := decide_eq_false (by omega)
        have e1 : decide (1099511627776 < h1) = false := decide_eq_false (by omega)
        have e2 : wrap64 (sumH h0 h1 h2 h3 1 + h1) = sumH h0 h1 h2 h3 2 := by simp only [sumH]; unfold wrap64; omega
        go_wp2
        go_roundg gk
        case measure => omega
        case rel => exact ⟨2, by omega, rfl, by first | rfl | (rw [← e2]; rfl) | (rw [← e2]), by omega, rfl⟩
      · have e0 : decide (h2 < 0) = false := decide_eq_false (by omega)
        have e1 : decide (1099511627776 < h2) = false := decide_eq_false (by omega)
        have e2 : wrap64 (sumH h0 h1 h2 h3 2 + h2) = sumH h0 h1 h2 h3 3 := by simp only [sumH]; unfold wrap64; omega
        go_wp2
        go_roundg gk
        case measure => omega
        case rel => exact ⟨3, by omega, rfl, by first | rfl | (rw [← e2]; rfl) | (rw [← e2]), by omega, rfl⟩
      · have e0 : decide (h3 < 0) = false := decide_eq_false (by omega)
        have e1 : decide (1099511627776 < h3) = false := decide_eq_false (by omega)
        have e2 : wrap64 (sumH h0 h1 h2 h3 3 + h3) = sumH h0 h1 h2 h3 4 := by simp only [sumH]; unfold wrap64; omega
        go_wp2
        go_roundg gk
        case measure => omega
        case rel => exact ⟨4, by omega, rfl, by first | rfl | (rw [← e2]; rfl) | (rw [← e2]), by omega, rfl⟩
end
section
open Go.RowKit Go.Proofs.YtgipepjpkmlmaaaW.PrintWords Go.Proofs.YtgipepjpkmlmaaaW.PrintLast Go.Proofs.YtgipepjpkmlmaaaW.PrintMore

def putL (w : World) (g : Nat) : Nat → List Value → World
  | _, [] => w
  | o, v :: vs => putL (w.setCell ⟨g, o, none⟩ v) g (o + 1) vs
theorem putL_other {g k : Nat} (h : k ≠ g) : ∀ (vs : List Value) (o : Nat) (w : World), (putL w g o vs).heap[k]? = w.heap[k]?
  | [], o, w => rfl
  | v :: vs, o, w => (putL_other h vs (o + 1) _).trans (heap_setCell_other w (⟨g, o, none⟩ : Addr) k v h)
def put12 (w : World) (g : Nat) (a0 a1 a2 a3 a4 a5 a6 a7 a8 a9 a10 a11 : Value) : World := ((((((((((((w.setCell ⟨g, 0, none⟩ a0).setCell ⟨g, 1, none⟩ a1).setCell ⟨g, 2, none⟩ a2).setCell ⟨g, 3, none⟩ a3).setCell ⟨g, 4, none⟩ a4).setCell ⟨g, 5, none⟩ a5).setCell ⟨g, 6, none⟩ a6).setCell ⟨g, 7, none⟩ a7).setCell ⟨g, 8, none⟩ a8).setCell ⟨g, 9, none⟩ a9).setCell ⟨g, 10, none⟩ a10).setCell ⟨g, 11, none⟩ a11)
theorem put12_heap {w : World} {g : Nat} {b0 b1 b2 b3 b4 b5 b6 b7 b8 b9 b10 b11 : Value} (h : w.heap[g]? = some (.cells #[b0, b1, b2, b3, b4, b5, b6, b7, b8, b9, b10, b11] 46 (0, 0))) (a0 a1 a2 a3 a4 a5 a6 a7 a8 a9 a10 a11 : Value) : (put12 w g a0 a1 a2 a3 a4 a5 a6 a7 a8 a9 a10 a11).heap[g]? = some (.cells #[a0, a1, a2, a3, a4, a5, a6, a7, a8, a9, a10, a11] 46 (0, 0)) := by
  unfold put12
  have g0 := blk_put (cs' := #[a0, b1, b2, b3, b4, b5, b6, b7, b8, b9, b10, b11]) h 0 a0 rfl
  have g1 := blk_put (cs' := #[a0, a1, b2, b3, b4, b5, b6, b7, b8, b9, b10, b11]) g0 1 a1 rfl
  have g2 := blk_put (cs' := #[a0, a1, a2, b3, b4, b5, b6, b7, b8, b9, b10, b11]) g1 2 a2 rfl
  have g3 := blk_put (cs' := #[a0, a1, a2, a3, b4, b5, b6, b7, b8, b9, b10, b11]) g2 3 a3 rfl
  have g4 := blk_put (cs' := #[a0, a1, a2, a3, a4, b5, b6, b7, b8, b9, b10, b11]) g3 4 a4 rfl
  have g5 := blk_put (cs' := #[a0, a1, a2, a3, a4, a5, b6, b7, b8, b9, b10, b11]) g4 5 a5 rfl
  have g6 := blk_put (cs' := #[a0, a1, a2, a3, a4, a5, a6, b7, b8, b9, b10, b11]) g5 6 a6 rfl
  have g7 := blk_put (cs' := #[a0, a1, a2, a3, a4, a5, a6, a7, b8, b9, b10, b11]) g6 7 a7 rfl
  have g8 := blk_put (cs' := #[a0, a1, a2, a3, a4, a5, a6, a7, a8, b9, b10, b11]) g7 8 a8 rfl
  have g9 := blk_put (cs' := #[a0, a1, a2, a3, a4, a5, a6, a7, a8, a9, b10, b11]) g8 9 a9 rfl
  have g10 := blk_put (cs' := #[a0, a1, a2, a3, a4, a5, a6, a7, a8, a9, a10, b11]) g9 10 a10 rfl
  have g11 := blk_put (cs' := #[a0, a1, a2, a3, a4, a5, a6, a7, a8, a9, a10, a11]) g10 11 a11 rfl
  exact g11
theorem put12_other {w : World} {g k : Nat} (h : k ≠ g) (a0 a1 a2 a3 a4 a5 a6 a7 a8 a9 a10 a11 : Value) : (put12 w g a0 a1 a2 a3 a4 a5 a6 a7 a8 a9 a10 a11).heap[k]? = w.heap[k]? := by
  have e : put12 w g a0 a1 a2 a3 a4 a5 a6 a7 a8 a9 a10 a11 = putL w g 0 [a0, a1, a2, a3, a4, a5, a6, a7, a8, a9, a10, a11] := rfl
  rw [e]
  exact putL_other h _ _ _
theorem put12_below {B g : Nat} {w0 w : World} (h : Below B w0 w) (hg : B ≤ g) (a0 a1 a2 a3 a4 a5 a6 a7 a8 a9 a10 a11 : Value) : Below B w0 (put12 w g a0 a1 a2 a3 a4 a5 a6 a7 a8 a9 a10 a11) := by
  unfold put12
  exact ((((((((((((h.setCell hg _).setCell hg _).setCell hg _).setCell hg _).setCell hg _).setCell hg _).setCell hg _).setCell hg _).setCell hg _).setCell hg _).setCell hg _).setCell hg _)
def put10 (w : World) (g : Nat) (a2 a3 a4 a5 a6 a7 a8 a9 a10 a11 : Value) : World := ((((((((((w.setCell ⟨g, 2, none⟩ a2).setCell ⟨g, 3, none⟩ a3).setCell ⟨g, 4, none⟩ a4).setCell ⟨g, 5, none⟩ a5).setCell ⟨g, 6, none⟩ a6).setCell ⟨g, 7, none⟩ a7).setCell ⟨g, 8, none⟩ a8).setCell ⟨g, 9, none⟩ a9).setCell ⟨g, 10, none⟩ a10).setCell ⟨g, 11, none⟩ a11)
theorem put10_heap {w : World} {g : Nat} {b0 b1 b2 b3 b4 b5 b6 b7 b8 b9 b10 b11 : Value} (h : w.heap[g]? = some (.cells #[b0, b1, b2, b3, b4, b5, b6, b7, b8, b9, b10, b11] 46 (0, 0))) (a2 a3 a4 a5 a6 a7 a8 a9 a10 a11 : Value) : (put10 w g a2 a3 a4 a5 a6 a7 a8 a9 a10 a11).heap[g]? = some (.cells #[b0, b1, a2, a3, a4, a5, a6, a7, a8, a9, a10, a11] 46 (0, 0)) := by
  unfold put10
  have g0 := blk_put (cs' := #[b0, b1, a2, b3, b4, b5, b6, b7, b8, b9, b10, b11]) h 2 a2 rfl
  have g1 := blk_put (cs' := #[b0, b1, a2, a3, b4, b5, b6, b7, b8, b9, b10, b11]) g0 3 a3 rfl
  have g2 := blk_put (cs' := #[b0, b1, a2, a3, a4, b5, b6, b7, b8, b9, b10, b11]) g1 4 a4 rfl
  have g3 := blk_put (cs' := #[b0, b1, a2, a3, a4, a5, b6, b7, b8, b9, b10, b11]) g2 5 a5 rfl
  have g4 := blk_put (cs' := #[b0, b1, a2, a3, a4, a5, a6, b7, b8, b9, b10, b11]) g3 6 a6 rfl
  have g5 := blk_put (cs' := #[b0, b1, a2, a3, a4, a5, a6, a7, b8, b9, b10, b11]) g4 7 a7 rfl
  have g6 := blk_put (cs' := #[b0, b1, a2, a3, a4, a5, a6, a7, a8, b9, b10, b11]) g5 8 a8 rfl
  have g7 := blk_put (cs' := #[b0, b1, a2, a3, a4, a5, a6, a7, a8, a9, b10, b11]) g6 9 a9 rfl
  have g8 := blk_put (cs' := #[b0, b1, a2, a3, a4, a5, a6, a7, a8, a9, a10, b11]) g7 10 a10 rfl
  have g9 := blk_put (cs' := #[b0, b1, a2, a3, a4, a5, a6, a7, a8, a9, a10, a11]) g8 11 a11 rfl
  exact g9
theorem put10_other {w : World} {g k : Nat} (h : k ≠ g) (a2 a3 a4 a5 a6 a7 a8 a9 a10 a11 : Value) : (put10 w g a2 a3 a4 a5 a6 a7 a8 a9 a10 a11).heap[k]? = w.heap[k]? := by
  have e : put10 w g a2 a3 a4 a5 a6 a7 a8 a9 a10 a11 = putL w g 2 [a2, a3, a4, a5, a6, a7, a8, a9, a10, a11] := rfl
  rw [e]
  exact putL_other h _ _ _
theorem put10_below {B g : Nat} {w0 w : World} (h : Below B w0 w) (hg : B ≤ g) (a2 a3 a4 a5 a6 a7 a8 a9 a10 a11 : Value) : Below B w0 (put10 w g a2 a3 a4 a5 a6 a7 a8 a9 a10 a11) := by
  unfold put10
  exact ((((((((((h.setCell hg _).setCell hg _).setCell hg _).setCell hg _).setCell hg _).setCell hg _).setCell hg _).setCell hg _).setCell hg _).setCell hg _)
/-! ### What the reference's put leaves -/
theorem put_place (l : List S46) (x : S46) (hs : srt l) (i : Nat) (hi : i ≤ l.length) (h1 : ∀ m, m < i → ltC (rd_T46 l (m : Int)) x) (h2 : i < l.length → ¬ ltC (rd_T46 l (i : Int)) x) :
    bsI l x = i ∧ (i < l.length → aheadB x (rd_T46 l (i : Int)) = !bsF l x) ∧ (bsF l x = true → i < l.length) := by
  obtain ⟨s1, s2⟩ := bsI_spec l x hs
  obtain ⟨p1, p2⟩ := place l x hs
  have hle : bsI l x ≤ l.length := bsL_le l x (l.length + 1) 0 l.length (Nat.zero_le _)
  have e : bsI l x = i := by
    rcases Nat.lt_trichotomy (bsI l x) i with h | h | h
    · exact absurd (h1 _ h) (s2 _ (Nat.le_refl _) (by omega))
    · exact h
    · exact absurd (s1 _ h) (h2 (by omega))
  rw [e] at p1 p2
  refine ⟨e, fun hl => ?_, fun hf => (p1 hf).1⟩
  cases hf : bsF l x with
  | true =>
    have hk := (p1 hf).2
    unfold keyC at hk
    injection hk with k1 k2
    show aheadB x _ = false
    rw [Bool.eq_false_iff]
    intro h
    have := (aheadB_iff _ _).1 h
    unfold ltC at this
    omega
  | false =>
    have hp := p2 hf
    show aheadB x _ = true
    rw [aheadB_iff, rd_get l i hl]
    rw [List.pairwise_append] at hp
    have hp2 := hp.2.1
    rw [List.drop_eq_getElem_cons hl, List.pairwise_cons] at hp2
    exact hp2.1 _ List.mem_cons_self
theorem take_put (key v t : Int) (l : List S46) (i : Nat) (hi : bsI l ⟨key, t, z44⟩ = i) (hil : i ≤ l.length) (hf : bsF l ⟨key, t, z44⟩ = true → i < l.length) (y : S46) (hy : y = if bsF l ⟨key, t, z44⟩ = true then rd_T46 l (i : Int) else ⟨key, t, z44⟩)
    (j : Nat) (hj : j = if bsF l ⟨key, t, z44⟩ = true then i + 1 else i) : takeS key v t l = l.take i ++ [⟨y.f0, y.f1, addP y.f2 v⟩] ++ l.drop j := by
  unfold takeS
  simp only [hi]
  cases hb : bsF l ⟨key, t, z44⟩ with
  | true =>
    rw [hb, if_pos rfl] at hy hj
    rw [if_pos rfl, ← hy, List.set_eq_take_append_cons_drop, if_pos (hf hb), hj]
    simp
  | false =>
    rw [hb, if_neg (by decide)] at hy hj
    rw [if_neg (by decide)]
    have hlen : (l.take i).length = i := by rw [List.length_take]; omega
    have hrd : rd_T46 (l.take i ++ (⟨key, t, z44⟩ : S46) :: l.drop i) (i : Int) = ⟨key, t, z44⟩ := by
      rw [rd_get _ i (by simp; omega)]
      rw [List.getElem_append_right (by omega)]
      simp [hlen]
    rw [hrd, List.set_append_right _ _ (by omega), hlen, Nat.sub_self, List.set_cons_zero, hj, hy]
    simp
theorem cut46_C {w : World} {A : Option Addr} {xs : List S46} {m c : Nat} (h : k46.C w A xs.length xs) (hm : m ≤ xs.length) (hc : xs.length ≤ c) : k46.C w (if c = m then A else A.map (·.add (m * 12))) (xs.drop m).length (xs.drop m) := by
  have hl : (xs.drop m).length = xs.length - m := List.length_drop
  refine ⟨rfl, by rw [hl]; have := h.2.1; omega, fun hp => ?_⟩
  rw [hl] at hp
  obtain ⟨ad, rfl, hcell⟩ := h.2.2 (by omega)
  rw [if_neg (by omega)]
  refine ⟨ad.add (m * 12), rfl, fun j p hj => ?_⟩
  rw [List.getElem?_drop] at hj
  obtain ⟨cs, h1, h2, h3⟩ := hcell (m + j) p hj
  refine ⟨cs, h1, h2, fun i u hu => ?_⟩
  have e : k46.sz = 12 := rfl
  rw [e] at h3 ⊢
  rw [add_add, show m * 12 + (j * 12 + i) = (m + j) * 12 + i by omega]
  exact h3 i u hu
end
section
open Go.RowKit Go.Proofs.YtgipepjpkmlmaaaW.PrintWords Go.Proofs.YtgipepjpkmlmaaaW.PrintLast Go.Proofs.YtgipepjpkmlmaaaW.PrintMore

theorem aggI_zero : aggI z44 := ⟨by decide, by decide, by decide, by decide, fun k => by unfold hist; split <;> decide, by decide, by decide, by decide, by decide⟩
set_option maxHeartbeats 16000000 in
set_option maxRecDepth 100000 in
theorem putR_calls (l : List S46) (hs : srt l) (hl : l.length ≤ 1000) (key t v : Int) (ha : ∀ c ∈ l, aggI c.f2) (v0 : -9223372036854775808 ≤ v) (v1 : v ≤ 9223372036854775807) (A : Option Addr) (c : Nat) (w : World) (hr : k46.C w A l.length l) (hc : l.length ≤ c) :
    Calls Try.prog 76 #[.slice A l.length c, .int .i64 key, .int .i64 t, .int .i64 v] w fun e w' => ∃ u, e = .returned u ∧ Kd.R k46 46 w' w.heap.size (fun _ => True) u (takeS key v t l) ∧ Below w.heap.size w w' := by
  obtain ⟨T, hT⟩ : ∃ T, takeS key v t l = T := ⟨_, rfl⟩
  rw [hT]
  have HT := Lib.hid hT
  have HS := Lib.hid hs
  have HA := Lib.hid ha
  clear hT hs ha
  obtain ⟨W1, hW1⟩ : ∃ W, W = w.alloc (.cells #[.int .i64 key, .int .i64 t, .int .i64 0, .int .i64 0, .int .i64 0, .int .i64 0, .int .i64 0, .int .i64 0, .int .i64 0, .int .i64 0, .int .i64 0, .int .i64 0] 46) := ⟨_, rfl⟩
  have hbx : W1.heap[w.heap.size]? = some (.cells #[.int .i64 key, .int .i64 t, .int .i64 0, .int .i64 0, .int .i64 0, .int .i64 0, .int .i64 0, .int .i64 0, .int .i64 0, .int .i64 0, .int .i64 0, .int .i64 0] 46 (0, 0)) := by rw [hW1]; exact heap_alloc_new _ _
  have hb1 : Below w.heap.size w W1 := by rw [hW1]; exact below_alloc (Below.refl _ _) _
  have hsz : W1.heap.size = w.heap.size + 1 := by rw [hW1]; simp
  have HCW := Lib.hid hr
  have HC1 := Lib.hid (Kd.C_below hr hb1)
  have HBX := Lib.hid hbx
  have HB1 := Lib.hid hb1
  have HSZ := Lib.hid hsz
  have HW1 := Lib.hid hW1
  clear hW1 hbx hb1 hsz hr
  go_enter Try.func76, Try.ntmps76
  go_upto_region 2 with fail
  rw [← HW1.out]
  go_upto_block 0 with fail
  go_cut [10, 11] from 15 to 35 (fun v10 v11 wc => ∃ (i : Nat) (A2 : Option Addr) (c2 : Nat), v11 = .int .i64 (i : Int) ∧ i ≤ l.length ∧ v10 = .slice A2 i c2 ∧ Kd.R k46 46 wc W1.heap.size (fun _ => True) (.slice A2 i c2) (l.take i) ∧ (∀ m, m < i → ltC (rd_T46 l (m : Int)) ⟨key, t, z44⟩) ∧ (i < l.length → ¬ ltC (rd_T46 l (i : Int)) ⟨key, t, z44⟩) ∧ Below W1.heap.size W1 wc)
  case first =>
    go_wp2
    go_loopg [10, 11] l.length (fun kq v10 v11 WX => ∃ (i : Nat) (A2 : Option Addr) (c2 : Nat), v11 = .int .i64 (i : Int) ∧ i ≤ l.length ∧ l.length - i ≤ kq ∧ v10 = .slice A2 i c2 ∧ Kd.R k46 46 WX W1.heap.size (fun _ => True) (.slice A2 i c2) (l.take i) ∧ (∀ m, m < i → ltC (rd_T46 l (m : Int)) ⟨key, t, z44⟩) ∧ Below W1.heap.size W1 WX)
    case atStart => exact ⟨0, none, 0, rfl, Nat.zero_le _, by omega, rfl, Kd.R_nil _ _ _ _ _, fun m h => absurd h (Nat.not_lt_zero _), Below.refl _ _⟩
    case round =>
      obtain ⟨i, A2, c2, rfl, hil, hik, rfl, hR2, hlt, hbr⟩ := hrel
      obtain ⟨WX, hWX⟩ : ∃ W, W = wr := ⟨_, rfl⟩
      subst hWX
      have HR2 := Lib.hid hR2
      have HLT := Lib.hid hlt
      have HBR := Lib.hid hbr
      have hi64 : i ≤ 1000 := by omega
      clear hR2 hlt hbr
      by_cases hin : i < l.length
      rotate_left
      · have hnb : decide ((i : Int) < (l.length : Int)) = false := decide_eq_false (by omega)
        have hnn : ¬ i < l.length := hin
        go_wp2
        refine wp_region_held_drew (S := fun w_ => Below WX.heap.size WX w_) (by kernel_rfl) (below_drew (Below.refl _ _)) (fun hS_ => ?_)
        have hS : Below WX.heap.size WX _ := hS_
        clear hS_
        change wpAnyH _ _ _ _ _ 12 #[false, false, false, false, false, false, false, false, false, false, false, false] _ _
        refine takeE 0 (some 15) #[true, false, false, false, false, false, false, false, false, false, false, false] hS ?_
        refine takeE 1 (some 16) #[true, true, false, false, false, false, false, false, false, false, false, false] hS ?_
        refine doD (i := 2) (ls2 := #[true, true, true, false, false, false, false, false, false, false, false, false]) (by kernel_rfl) rfl (by kernel_rfl) (by kernel_rfl) (fun K hK => ?_)
        go_simp
        refine hK.out _ _ ?_ (fun hS_ => ?_)
        · show Below WX.heap.size WX _
          exact hS
        clear hK K hS
        have hS : Below WX.heap.size WX _ := hS_
        clear hS_
        refine takeE 3 (some 18) #[true, true, true, true, false, false, false, false, false, false, false, false] hS ?_
        refine takeE 4 (some 19) #[true, true, true, true, true, false, false, false, false, false, false, false] hS ?_
        refine offE 5 (some 20) #[true, true, true, true, true, true, false, false, false, false, false, false] hS ?_
        refine offE 6 (some 21) #[true, true, true, true, true, true, true, false, false, false, false, false] hS ?_
        refine offE 7 (some 22) #[true, true, true, true, true, true, true, true, false, false, false, false] hS ?_
        refine offE 8 (some 23) #[true, true, true, true, true, true, true, true, true, false, false, false] hS ?_
        refine offE 9 (some 24) #[true, true, true, true, true, true, true, true, true, true, false, false] hS ?_
        refine offE 10 (some 25) #[true, true, true, true, true, true, true, true, true, true, true, false] hS ?_
        refine takeE 11 (some 26) #[true, true, true, true, true, true, true, true, true, true, true, true] hS ?_
        refine wpAnyH_done (by kernel_rfl) ?_ _
        try go_simp
        have HSS := Lib.hid hS
        clear hS
        go_wp2
        go_meet
        case rel => exact ⟨i, A2, c2, rfl, hil, rfl, Kd.R_below HR2.out HSS.out, HLT.out, fun h => absurd h hin, HBR.out.trans (HSS.out.mono HBR.out.size)⟩
      have d1 : decide ((i : Int) < (l.length : Int)) = true := decide_eq_true (by omega)
      have hbi : (0 : Int) ≤ (i : Int) ∧ (i : Int) < (l.length : Int) := by omega
      have hwi : IntKind.i64.wrap ((i : Int) + 1) = (i : Int) + 1 := by rw [IntKind.wrap_i64]; omega
      obtain ⟨ad, had, x0, x1, x2, x3, x4, x5, x6, x7, x8, x9, x10, x11⟩ := at_T46 (Kd.C_below HC1.out HBR.out) (i : Int) (by omega) (by omega)
      cases had
      rw [Int.toNat_natCast] at x0 x1 x2 x3 x4 x5 x6 x7 x8 x9 x10 x11
      have htk : l.take (i + 1) = l.take i ++ [rd_T46 l (i : Int)] := by rw [List.take_succ_eq_append_getElem hin, rd_get l i hin]
      obtain ⟨x, hx⟩ : ∃ x, rd_T46 l (i : Int) = x := ⟨_, rfl⟩
      rw [hx] at x0 x1 x2 x3 x4 x5 x6 x7 x8 x9 x10 x11 htk
      have hah : ∀ w, Calls Try.prog 64 #[cellV x, .agg #[.int .i64 key, .int .i64 t, .int .i64 0, .int .i64 0, .int .i64 0, .int .i64 0, .int .i64 0, .int .i64 0, .int .i64 0, .int .i64 0, .int .i64 0, .int .i64 0]] w fun e w' => e = .returned (.bool (aheadB x ⟨key, t, z44⟩)) ∧ Below w.heap.size w w' := fun w => aheadR_calls x ⟨key, t, z44⟩ w
      obtain ⟨b, hb⟩ : ∃ b, aheadB x ⟨key, t, z44⟩ = b := ⟨_, rfl⟩
      rw [hb] at hah
      have hyb := blk_below HBX.out HBR.out
      have HL0 := Lib.hid x0
      have HL1 := Lib.hid x1
      have HL2 := Lib.hid x2
      have HL3 := Lib.hid x3
      have HL4 := Lib.hid x4
      have HL5 := Lib.hid x5
      have HL6 := Lib.hid x6
      have HL7 := Lib.hid x7
      have HL8 := Lib.hid x8
      have HL9 := Lib.hid x9
      have HL10 := Lib.hid x10
      have HL11 := Lib.hid x11
      have HY0 := Lib.hid (show WX.cell? ⟨w.heap.size, 0, none⟩ = some (.int .i64 key) from (blk_cell hyb 0).trans rfl)
      have HY1 := Lib.hid (show WX.cell? ⟨w.heap.size, 1, none⟩ = some (.int .i64 t) from (blk_cell hyb 1).trans rfl)
      have HY2 := Lib.hid (show WX.cell? ⟨w.heap.size, 2, none⟩ = some (.int .i64 0) from (blk_cell hyb 2).trans rfl)
      have HY3 := Lib.hid (show WX.cell? ⟨w.heap.size, 3, none⟩ = some (.int .i64 0) from (blk_cell hyb 3).trans rfl)
      have HY4 := Lib.hid (show WX.cell? ⟨w.heap.size, 4, none⟩ = some (.int .i64 0) from (blk_cell hyb 4).trans rfl)
      have HY5 := Lib.hid (show WX.cell? ⟨w.heap.size, 5, none⟩ = some (.int .i64 0) from (blk_cell hyb 5).trans rfl)
      have HY6 := Lib.hid (show WX.cell? ⟨w.heap.size, 6, none⟩ = some (.int .i64 0) from (blk_cell hyb 6).trans rfl)
      have HY7 := Lib.hid (show WX.cell? ⟨w.heap.size, 7, none⟩ = some (.int .i64 0) from (blk_cell hyb 7).trans rfl)
      have HY8 := Lib.hid (show WX.cell? ⟨w.heap.size, 8, none⟩ = some (.int .i64 0) from (blk_cell hyb 8).trans rfl)
      have HY9 := Lib.hid (show WX.cell? ⟨w.heap.size, 9, none⟩ = some (.int .i64 0) from (blk_cell hyb 9).trans rfl)
      have HY10 := Lib.hid (show WX.cell? ⟨w.heap.size, 10, none⟩ = some (.int .i64 0) from (blk_cell hyb 10).trans rfl)
      have HY11 := Lib.hid (show WX.cell? ⟨w.heap.size, 11, none⟩ = some (.int .i64 0) from (blk_cell hyb 11).trans rfl)
      have HAH := Lib.hid hah
      have HX := Lib.hid hx
      have HTK := Lib.hid htk
      have HB := Lib.hid hb
      clear hah hx htk hb hyb x0 x1 x2 x3 x4 x5 x6 x7 x8 x9 x10 x11
      cases gk with
      | zero => omega
      | succ gk =>
      go_wp2
      cases b with
      | false =>
          refine wp_region_held_drew (S := fun w_ => Below WX.heap.size WX w_) (by kernel_rfl) (below_drew (Below.refl _ _)) (fun hS_ => ?_)
          have hS : Below WX.heap.size WX _ := hS_
          clear hS_
          change wpAnyH _ _ _ _ _ 12 #[false, false, false, false, false, false, false, false, false, false, false, false] _ _
          refine takeE 0 (some 15) #[true, false, false, false, false, false, false, false, false, false, false, false] hS ?_
          refine takeE 1 (some 16) #[true, true, false, false, false, false, false, false, false, false, false, false] hS ?_
          refine doD (i := 2) (ls2 := #[true, true, true, false, false, false, false, false, false, false, false, false]) (by kernel_rfl) rfl (by kernel_rfl) (by kernel_rfl) (fun K hK => ?_)
          go_simp
          refine hK.out _ _ ?_ (fun hS_ => ?_)
          · show Below WX.heap.size WX _
            exact hS
          clear hK K hS
          have hS : Below WX.heap.size WX _ := hS_
          clear hS_
          refine takeE 3 (some 18) #[true, true, true, true, false, false, false, false, false, false, false, false] hS ?_
          refine takeE 4 (some 19) #[true, true, true, true, true, false, false, false, false, false, false, false] hS ?_
          refine takeE 5 (some 20) #[true, true, true, true, true, true, false, false, false, false, false, false] hS ?_
          refine takeE 6 (some 21) #[true, true, true, true, true, true, true, false, false, false, false, false] hS ?_
          refine takeE 7 (some 22) #[true, true, true, true, true, true, true, true, false, false, false, false] hS ?_
          refine takeE 8 (some 23) #[true, true, true, true, true, true, true, true, true, false, false, false] hS ?_ (hy := fun w_ hS_ => by (replace hS_ : Below WX.heap.size WX w_ := hS_); have x0_ := below_cell hS_ HL0.out; have x1_ := below_cell hS_ HL1.out; have x2_ := below_cell hS_ HL2.out; have x3_ := below_cell hS_ HL3.out; have x4_ := below_cell hS_ HL4.out; have x5_ := below_cell hS_ HL5.out; have x6_ := below_cell hS_ HL6.out; have x7_ := below_cell hS_ HL7.out; have x8_ := below_cell hS_ HL8.out; have x9_ := below_cell hS_ HL9.out; have x10_ := below_cell hS_ HL10.out; have x11_ := below_cell hS_ HL11.out; go_simp <;> with_reducible rfl)
          refine takeE 9 (some 24) #[true, true, true, true, true, true, true, true, true, true, false, false] hS ?_ (hy := fun w_ hS_ => by (replace hS_ : Below WX.heap.size WX w_ := hS_); have y0_ := below_cell hS_ HY0.out; have y1_ := below_cell hS_ HY1.out; have y2_ := below_cell hS_ HY2.out; have y3_ := below_cell hS_ HY3.out; have y4_ := below_cell hS_ HY4.out; have y5_ := below_cell hS_ HY5.out; have y6_ := below_cell hS_ HY6.out; have y7_ := below_cell hS_ HY7.out; have y8_ := below_cell hS_ HY8.out; have y9_ := below_cell hS_ HY9.out; have y10_ := below_cell hS_ HY10.out; have y11_ := below_cell hS_ HY11.out; go_simp <;> with_reducible rfl)
          refine doD (i := 10) (ls2 := #[true, true, true, true, true, true, true, true, true, true, true, false]) (by kernel_rfl) rfl (by kernel_rfl) (by kernel_rfl) (fun K hK => ?_)
          go_simp
          go_wp2_with (first | (go_at_call 64; go_loud ((with_reducible refine (HAH.out _).mono ?_); rintro e w3 ⟨rfl, hb3⟩)))
          refine hK.out _ _ ?_ (fun hS_ => ?_)
          · show Below WX.heap.size WX _
            exact hS.trans (hb3.mono hS.size)
          clear hK K hS hb3
          have hS : Below WX.heap.size WX _ := hS_
          clear hS_
          refine takeE 11 (some 26) #[true, true, true, true, true, true, true, true, true, true, true, true] hS ?_
          refine wpAnyH_done (by kernel_rfl) ?_ _
          try go_simp
          have HSS := Lib.hid hS
          clear hS
          go_wp2
          go_meet
          case rel => exact ⟨i, A2, c2, rfl, hil, rfl, Kd.R_below HR2.out HSS.out, HLT.out, (fun h hc_ => by rw [HX.out, ← aheadB_iff, HB.out] at hc_; cases hc_), HBR.out.trans (HSS.out.mono HBR.out.size)⟩
      | true =>
          refine wp_region_held_drew (S := fun w_ => Below WX.heap.size WX w_) (by kernel_rfl) (below_drew (Below.refl _ _)) (fun hS_ => ?_)
          have hS : Below WX.heap.size WX _ := hS_
          clear hS_
          change wpAnyH _ _ _ _ _ 12 #[false, false, false, false, false, false, false, false, false, false, false, false] _ _
          refine takeE 0 (some 15) #[true, false, false, false, false, false, false, false, false, false, false, false] hS ?_
          refine takeE 1 (some 16) #[true, true, false, false, false, false, false, false, false, false, false, false] hS ?_
          refine doD (i := 2) (ls2 := #[true, true, true, false, false, false, false, false, false, false, false, false]) (by kernel_rfl) rfl (by kernel_rfl) (by kernel_rfl) (fun K hK => ?_)
          go_simp
          refine hK.out _ _ ?_ (fun hS_ => ?_)
          · show Below WX.heap.size WX _
            exact hS
          clear hK K hS
          have hS : Below WX.heap.size WX _ := hS_
          clear hS_
          refine takeE 3 (some 18) #[true, true, true, true, false, false, false, false, false, false, false, false] hS ?_
          refine takeE 4 (some 19) #[true, true, true, true, true, false, false, false, false, false, false, false] hS ?_
          refine takeE 5 (some 20) #[true, true, true, true, true, true, false, false, false, false, false, false] hS ?_
          refine takeE 6 (some 21) #[true, true, true, true, true, true, true, false, false, false, false, false] hS ?_
          refine takeE 7 (some 22) #[true, true, true, true, true, true, true, true, false, false, false, false] hS ?_
          refine takeE 8 (some 23) #[true, true, true, true, true, true, true, true, true, false, false, false] hS ?_ (hy := fun w_ hS_ => by (replace hS_ : Below WX.heap.size WX w_ := hS_); have x0_ := below_cell hS_ HL0.out; have x1_ := below_cell hS_ HL1.out; have x2_ := below_cell hS_ HL2.out; have x3_ := below_cell hS_ HL3.out; have x4_ := below_cell hS_ HL4.out; have x5_ := below_cell hS_ HL5.out; have x6_ := below_cell hS_ HL6.out; have x7_ := below_cell hS_ HL7.out; have x8_ := below_cell hS_ HL8.out; have x9_ := below_cell hS_ HL9.out; have x10_ := below_cell hS_ HL10.out; have x11_ := below_cell hS_ HL11.out; go_simp <;> with_reducible rfl)
          refine takeE 9 (some 24) #[true, true, true, true, true, true, true, true, true, true, false, false] hS ?_ (hy := fun w_ hS_ => by (replace hS_ : Below WX.heap.size WX w_ := hS_); have y0_ := below_cell hS_ HY0.out; have y1_ := below_cell hS_ HY1.out; have y2_ := below_cell hS_ HY2.out; have y3_ := below_cell hS_ HY3.out; have y4_ := below_cell hS_ HY4.out; have y5_ := below_cell hS_ HY5.out; have y6_ := below_cell hS_ HY6.out; have y7_ := below_cell hS_ HY7.out; have y8_ := below_cell hS_ HY8.out; have y9_ := below_cell hS_ HY9.out; have y10_ := below_cell hS_ HY10.out; have y11_ := below_cell hS_ HY11.out; go_simp <;> with_reducible rfl)
          refine doD (i := 10) (ls2 := #[true, true, true, true, true, true, true, true, true, true, true, false]) (by kernel_rfl) rfl (by kernel_rfl) (by kernel_rfl) (fun K hK => ?_)
          go_simp
          go_wp2_with (first | (go_at_call 64; go_loud ((with_reducible refine (HAH.out _).mono ?_); rintro e w3 ⟨rfl, hb3⟩)))
          refine hK.out _ _ ?_ (fun hS_ => ?_)
          · show Below WX.heap.size WX _
            exact hS.trans (hb3.mono hS.size)
          clear hK K hS hb3
          have hS : Below WX.heap.size WX _ := hS_
          clear hS_
          refine takeE 11 (some 26) #[true, true, true, true, true, true, true, true, true, true, true, true] hS ?_
          refine wpAnyH_done (by kernel_rfl) ?_ _
          try go_simp
          have HSS := Lib.hid hS
          clear hS
          have x0 := below_cell HSS.out HL0.out
          have x1 := below_cell HSS.out HL1.out
          have x2 := below_cell HSS.out HL2.out
          have x3 := below_cell HSS.out HL3.out
          have x4 := below_cell HSS.out HL4.out
          have x5 := below_cell HSS.out HL5.out
          have x6 := below_cell HSS.out HL6.out
          have x7 := below_cell HSS.out HL7.out
          have x8 := below_cell HSS.out HL8.out
          have x9 := below_cell HSS.out HL9.out
          have x10 := below_cell HSS.out HL10.out
          have x11 := below_cell HSS.out HL11.out
          have hba := (Below.refl w3.heap.size w3).alloc (Nat.le_refl _) (.cells #[.int .i64 x.f0, .int .i64 x.f1, .int .i64 x.f2.f0, .int .i64 x.f2.f1, .int .i64 x.f2.f2, .int .i64 x.f2.f3, .int .i64 x.f2.f4.f0, .int .i64 x.f2.f4.f1, .int .i64 x.f2.f4.f2, .int .i64 x.f2.f4.f3, .int .i64 x.f2.f5, .int .i64 x.f2.f6] 46)
          have hC5 : k46.C (w3.alloc (.cells #[.int .i64 x.f0, .int .i64 x.f1, .int .i64 x.f2.f0, .int .i64 x.f2.f1, .int .i64 x.f2.f2, .int .i64 x.f2.f3, .int .i64 x.f2.f4.f0, .int .i64 x.f2.f4.f1, .int .i64 x.f2.f4.f2, .int .i64 x.f2.f4.f3, .int .i64 x.f2.f5, .int .i64 x.f2.f6] 46)) (some ⟨w3.heap.size, 0, none⟩) 1 [x] := one_C (heap_alloc_new _ _)
          have h3 := HBR.out.trans (HSS.out.mono HBR.out.size)
          have hR5 := Kd.R_below (Kd.R_below HR2.out HSS.out) hba
          have hB5 := h3.trans (hba.mono h3.size)
          have hln : (l.take (i + 1)).length = i + 1 := by rw [List.length_take]; omega
          have HLN := Lib.hid hln
          have HR5 := Lib.hid hR5
          have HC5 := Lib.hid hC5
          have HB5 := Lib.hid hB5
          have htl : (l.take i).length ≤ 1000 := by rw [List.length_take]; omega
          have HTL := Lib.hid htl
          clear hba hC5 h3 hR5 hB5 hln htl
          go_wp2_with (first | ((with_reducible refine gate_builtin (b := .append) (xs := #[.tmp 27, .tmp 32]) rfl ?_); (try (refine gate_guard (by rfl) ?_; dsimp only)); at_builtin; refine Kd.R_append_rows k46 (w0 := W1) W1.heap.size rfl (.tmp 27) (.tmp 32) 26 46 (.agg #[(.int .i64 0), (.int .i64 0), (.int .i64 0), (.int .i64 0), (.int .i64 0), (.int .i64 0), (.int .i64 0), (.int .i64 0), (.int .i64 0), (.int .i64 0), (.int .i64 0), (.int .i64 0)]) 96 rfl Try.underlying26 info46 rfl (by decide) (by omega) (.slice A2 i c2) (l.take i) [x] _ _ _ (fun _ => True) (fun _ => False) rfl rfl HR5.out HC5.out (fun _ _ h => by obtain rfl := k46_open h; exact k46_mkM _ _ _ _) (fun _ h => h.elim) (fun _ _ => trivial) HB5.out HB5.out.size ?aL ?_; (case aL => have h_ := HTL.out; first | omega | (simp at h_ ⊢; omega)); intro v8 w8 hR8 hb8 hg8 hat8; rw [← HTK.out] at hR8; obtain ⟨A3, c3, hv3, hc3, _⟩ := Kd.R_reads hR8; rw [HLN.out] at hv3; subst hv3))
          go_roundg gk
          case measure => omega
          case rel => exact ⟨i + 1, A3, c3, by first | rfl | (congr 1), by omega, by omega, rfl, hR8, (fun m hm => (Nat.lt_or_ge m i).elim (HLT.out m) (fun h_ => by have e_ : m = i := (by omega); rw [e_, HX.out, ← aheadB_iff, HB.out])), hb8⟩
  case rest =>
    obtain ⟨i, A2, c2, rfl, hil, rfl, hR2, hlt, hnl, hbr⟩ := hcut
    obtain ⟨WX, hWX⟩ : ∃ W, W = wc := ⟨_, rfl⟩
    subst hWX
    obtain ⟨hbi, hah7, hfl⟩ := put_place l ⟨key, t, z44⟩ HS.out i hil hlt hnl
    have htk := fun (y : S46) hy (j : Nat) hj => take_put key v t l i hbi hil hfl y hy j hj
    obtain ⟨b, hb⟩ : ∃ b, bsF l ⟨key, t, z44⟩ = b := ⟨_, rfl⟩
    rw [hb] at hah7 hfl htk
    rw [HT.out] at htk
    have hi64 : i ≤ 1000 := by omega
    have HR2 := Lib.hid hR2
    have HBR := Lib.hid hbr
    have HAH7 := Lib.hid hah7
    have HFL := Lib.hid hfl
    have HTK := Lib.hid htk
    clear hR2 hlt hnl hbr hbi hah7 hfl htk hb HT
    go_upto_region 7 with fail
    go_cut [48] from 36 to 47 (fun v48 wc => v48 = .bool b ∧ Below WX.heap.size WX wc)
    case first =>
      by_cases hin : i < l.length
      rotate_left
      · have hnb : decide ((i : Int) < (l.length : Int)) = false := decide_eq_false (by omega)
        have hbf : b = false := by
          cases b with
          | false => rfl
          | true => exact absurd (HFL.out rfl) hin
        subst hbf
        refine wp_region_held_drew (S := fun w_ => Below WX.heap.size WX w_) (by kernel_rfl) (below_drew (Below.refl _ _)) (fun hS_ => ?_)
        have hS : Below WX.heap.size WX _ := hS_
        clear hS_
        change wpAnyH _ _ _ _ _ 13 #[false, false, false, false, false, false, false, false, false, false, false, false, false] _ _
        refine takeE 0 (some 36) #[true, false, false, false, false, false, false, false, false, false, false, false, false] hS ?_
        refine takeE 1 (some 37) #[true, true, false, false, false, false, false, false, false, false, false, false, false] hS ?_
        refine doD (i := 2) (ls2 := #[true, true, true, false, false, false, false, false, false, false, false, false, false]) (by kernel_rfl) rfl (by kernel_rfl) (by kernel_rfl) (fun K hK => ?_)
        go_simp
        refine hK.out _ _ ?_ (fun hS_ => ?_)
        · show Below WX.heap.size WX _
          exact hS
        clear hK K hS
        have hS : Below WX.heap.size WX _ := hS_
        clear hS_
        refine takeE 3 (some 39) #[true, true, true, true, false, false, false, false, false, false, false, false, false] hS ?_
        refine takeE 4 (some 40) #[true, true, true, true, true, false, false, false, false, false, false, false, false] hS ?_
        refine offE 5 (some 41) #[true, true, true, true, true, true, false, false, false, false, false, false, false] hS ?_
        refine offE 6 (some 42) #[true, true, true, true, true, true, true, false, false, false, false, false, false] hS ?_
        refine offE 7 (some 43) #[true, true, true, true, true, true, true, true, false, false, false, false, false] hS ?_
        refine offE 8 (some 44) #[true, true, true, true, true, true, true, true, true, false, false, false, false] hS ?_
        refine offE 9 (some 45) #[true, true, true, true, true, true, true, true, true, true, false, false, false] hS ?_
        refine offE 10 (some 46) #[true, true, true, true, true, true, true, true, true, true, true, false, false] hS ?_
        refine offE 11 (some 47) #[true, true, true, true, true, true, true, true, true, true, true, true, false] hS ?_
        refine takeE 12 (some 48) #[true, true, true, true, true, true, true, true, true, true, true, true, true] hS ?_
        refine wpAnyH_done (by kernel_rfl) ?_ _
        try go_simp
        go_wp2
        go_meet
        case rel => exact ⟨rfl, hS⟩
      · have d1 : decide ((i : Int) < (l.length : Int)) = true := decide_eq_true (by omega)
        have hbi : (0 : Int) ≤ (i : Int) ∧ (i : Int) < (l.length : Int) := by omega
        obtain ⟨ad, had, x0, x1, x2, x3, x4, x5, x6, x7, x8, x9, x10, x11⟩ := at_T46 (Kd.C_below HC1.out HBR.out) (i : Int) (by omega) (by omega)
        cases had
        rw [Int.toNat_natCast] at x0 x1 x2 x3 x4 x5 x6 x7 x8 x9 x10 x11
        have hah := HAH7.out hin
        obtain ⟨x, hx⟩ : ∃ x, rd_T46 l (i : Int) = x := ⟨_, rfl⟩
        rw [hx] at x0 x1 x2 x3 x4 x5 x6 x7 x8 x9 x10 x11 hah
        have hcall : ∀ w, Calls Try.prog 64 #[.agg #[.int .i64 key, .int .i64 t, .int .i64 0, .int .i64 0, .int .i64 0, .int .i64 0, .int .i64 0, .int .i64 0, .int .i64 0, .int .i64 0, .int .i64 0, .int .i64 0], cellV x] w fun e w' => e = .returned (.bool (!b)) ∧ Below w.heap.size w w' := by
          intro w
          rw [← hah]
          exact aheadR_calls ⟨key, t, z44⟩ x w
        have hyb := blk_below HBX.out HBR.out
        have HL0 := Lib.hid x0
        have HL1 := Lib.hid x1
        have HL2 := Lib.hid x2
        have HL3 := Lib.hid x3
        have HL4 := Lib.hid x4
        have HL5 := Lib.hid x5
        have HL6 := Lib.hid x6
        have HL7 := Lib.hid x7
        have HL8 := Lib.hid x8
        have HL9 := Lib.hid x9
        have HL10 := Lib.hid x10
        have HL11 := Lib.hid x11
        have HY0 := Lib.hid (show WX.cell? ⟨w.heap.size, 0, none⟩ = some (.int .i64 key) from (blk_cell hyb 0).trans rfl)
        have HY1 := Lib.hid (show WX.cell? ⟨w.heap.size, 1, none⟩ = some (.int .i64 t) from (blk_cell hyb 1).trans rfl)
        have HY2 := Lib.hid (show WX.cell? ⟨w.heap.size, 2, none⟩ = some (.int .i64 0) from (blk_cell hyb 2).trans rfl)
        have HY3 := Lib.hid (show WX.cell? ⟨w.heap.size, 3, none⟩ = some (.int .i64 0) from (blk_cell hyb 3).trans rfl)
        have HY4 := Lib.hid (show WX.cell? ⟨w.heap.size, 4, none⟩ = some (.int .i64 0) from (blk_cell hyb 4).trans rfl)
        have HY5 := Lib.hid (show WX.cell? ⟨w.heap.size, 5, none⟩ = some (.int .i64 0) from (blk_cell hyb 5).trans rfl)
        have HY6 := Lib.hid (show WX.cell? ⟨w.heap.size, 6, none⟩ = some (.int .i64 0) from (blk_cell hyb 6).trans rfl)
        have HY7 := Lib.hid (show WX.cell? ⟨w.heap.size, 7, none⟩ = some (.int .i64 0) from (blk_cell hyb 7).trans rfl)
        have HY8 := Lib.hid (show WX.cell? ⟨w.heap.size, 8, none⟩ = some (.int .i64 0) from (blk_cell hyb 8).trans rfl)
        have HY9 := Lib.hid (show WX.cell? ⟨w.heap.size, 9, none⟩ = some (.int .i64 0) from (blk_cell hyb 9).trans rfl)
        have HY10 := Lib.hid (show WX.cell? ⟨w.heap.size, 10, none⟩ = some (.int .i64 0) from (blk_cell hyb 10).trans rfl)
        have HY11 := Lib.hid (show WX.cell? ⟨w.heap.size, 11, none⟩ = some (.int .i64 0) from (blk_cell hyb 11).trans rfl)
        have HAH := Lib.hid hcall
        clear hah hx hyb hcall x0 x1 x2 x3 x4 x5 x6 x7 x8 x9 x10 x11
        refine wp_region_held_drew (S := fun w_ => Below WX.heap.size WX w_) (by kernel_rfl) (below_drew (Below.refl _ _)) (fun hS_ => ?_)
        have hS : Below WX.heap.size WX _ := hS_
        clear hS_
        change wpAnyH _ _ _ _ _ 13 #[false, false, false, false, false, false, false, false, false, false, false, false, false] _ _
        refine takeE 0 (some 36) #[true, false, false, false, false, false, false, false, false, false, false, false, false] hS ?_
        refine takeE 1 (some 37) #[true, true, false, false, false, false, false, false, false, false, false, false, false] hS ?_
        refine doD (i := 2) (ls2 := #[true, true, true, false, false, false, false, false, false, false, false, false, false]) (by kernel_rfl) rfl (by kernel_rfl) (by kernel_rfl) (fun K hK => ?_)
        go_simp
        refine hK.out _ _ ?_ (fun hS_ => ?_)
        · show Below WX.heap.size WX _
          exact hS
        clear hK K hS
        have hS : Below WX.heap.size WX _ := hS_
        clear hS_
        refine takeE 3 (some 39) #[true, true, true, true, false, false, false, false, false, false, false, false, false] hS ?_
        refine takeE 4 (some 40) #[true, true, true, true, true, false, false, false, false, false, false, false, false] hS ?_
        refine takeE 5 (some 41) #[true, true, true, true, true, true, false, false, false, false, false, false, false] hS ?_ (hy := fun w_ hS_ => by (replace hS_ : Below WX.heap.size WX w_ := hS_); have y0_ := below_cell hS_ HY0.out; have y1_ := below_cell hS_ HY1.out; have y2_ := below_cell hS_ HY2.out; have y3_ := below_cell hS_ HY3.out; have y4_ := below_cell hS_ HY4.out; have y5_ := below_cell hS_ HY5.out; have y6_ := below_cell hS_ HY6.out; have y7_ := below_cell hS_ HY7.out; have y8_ := below_cell hS_ HY8.out; have y9_ := below_cell hS_ HY9.out; have y10_ := below_cell hS_ HY10.out; have y11_ := below_cell hS_ HY11.out; go_simp <;> with_reducible rfl)
        refine takeE 6 (some 42) #[true, true, true, true, true, true, true, false, false, false, false, false, false] hS ?_
        refine takeE 7 (some 43) #[true, true, true, true, true, true, true, true, false, false, false, false, false] hS ?_
        refine takeE 8 (some 44) #[true, true, true, true, true, true, true, true, true, false, false, false, false] hS ?_
        refine takeE 9 (some 45) #[true, true, true, true, true, true, true, true, true, true, false, false, false] hS ?_ (hy := fun w_ hS_ => by (replace hS_ : Below WX.heap.size WX w_ := hS_); have x0_ := below_cell hS_ HL0.out; have x1_ := below_cell hS_ HL1.out; have x2_ := below_cell hS_ HL2.out; have x3_ := below_cell hS_ HL3.out; have x4_ := below_cell hS_ HL4.out; have x5_ := below_cell hS_ HL5.out; have x6_ := below_cell hS_ HL6.out; have x7_ := below_cell hS_ HL7.out; have x8_ := below_cell hS_ HL8.out; have x9_ := below_cell hS_ HL9.out; have x10_ := below_cell hS_ HL10.out; have x11_ := below_cell hS_ HL11.out; go_simp <;> with_reducible rfl)
        refine doD (i := 10) (ls2 := #[true, true, true, true, true, true, true, true, true, true, true, false, false]) (by kernel_rfl) rfl (by kernel_rfl) (by kernel_rfl) (fun K hK => ?_)
        go_simp
        go_wp2_with (first | (go_at_call 64; go_loud ((with_reducible refine (HAH.out _).mono ?_); rintro e w3 ⟨rfl, hb3⟩)))
        refine hK.out _ _ ?_ (fun hS_ => ?_)
        · show Below WX.heap.size WX _
          exact hS.trans (hb3.mono hS.size)
        clear hK K hS hb3
        have hS : Below WX.heap.size WX _ := hS_
        clear hS_
        refine takeE 11 (some 47) #[true, true, true, true, true, true, true, true, true, true, true, true, false] hS ?_
        refine takeE 12 (some 48) #[true, true, true, true, true, true, true, true, true, true, true, true, true] hS ?_
        refine wpAnyH_done (by kernel_rfl) ?_ _
        try go_simp
        go_wp2
        go_meet
        case rel => exact ⟨by first | rfl | (cases b <;> rfl), hS⟩
    case rest =>
      obtain ⟨rfl, hbw⟩ := hcut
      obtain ⟨y, hy⟩ : ∃ y : S46, y = if b = true then rd_T46 l (i : Int) else ⟨key, t, z44⟩ := ⟨_, rfl⟩
      obtain ⟨j, hj⟩ : ∃ j : Nat, j = if b = true then i + 1 else i := ⟨_, rfl⟩
      have htT := HTK.out y hy j hj
      have hjl : j ≤ l.length := by
        cases b with
        | true => rw [if_pos rfl] at hj; have := HFL.out rfl; omega
        | false => rw [if_neg (by decide)] at hj; omega
      have hyI : aggI y.f2 := by
        cases b with
        | true =>
          rw [if_pos rfl] at hy
          have hin := HFL.out rfl
          rw [hy, rd_get l i hin]
          exact HA.out _ (List.getElem_mem hin)
        | false =>
          rw [if_neg (by decide)] at hy
          rw [hy]
          exact aggI_zero
      have HTT := Lib.hid htT
      have HYI := Lib.hid hyI
      have HY := Lib.hid hy
      have HJ := Lib.hid hj
      have HRw := Lib.hid (Kd.R_below HR2.out hbw)
      have HBw := Lib.hid (HBR.out.trans (hbw.mono HBR.out.size))
      clear htT hyI hy hj hbw HTK HAH7 HA
      go_upto_if 48 with fail
      go_cut [11] from 49 to 54 (fun v11 wd => v11 = .int .i64 (j : Int) ∧ wd.heap[w.heap.size]? = some (.cells (c12 y).toArray 46 (0, 0)) ∧ Kd.R k46 46 wd W1.heap.size (fun _ => True) (.slice A2 i c2) (l.take i) ∧ Below w.heap.size w wd)
      case first =>
        have hxb := blk_below HBX.out HBw.out
        have hBW := HB1.out.trans (HBw.out.mono HB1.out.size)
        cases b with
        | false =>
          have hy := HY.out
          have hj := HJ.out
          rw [if_neg (by decide)] at hy hj
          subst hy hj
          have HXB := Lib.hid hxb
          have HBW := Lib.hid hBW
          clear hxb hBW
          go_wp2
          go_meet
          case rel => exact ⟨rfl, HXB.out, HRw.out, HBW.out⟩
        | true =>
          have hin := HFL.out rfl
          have hy := HY.out
          have hj := HJ.out
          rw [if_pos rfl] at hy hj
          obtain ⟨ad, had, x0, x1, x2, x3, x4, x5, x6, x7, x8, x9, x10, x11⟩ := at_T46 (Kd.C_below HC1.out HBw.out) (i : Int) (by omega) (by omega)
          cases had
          rw [Int.toNat_natCast, ← hy] at x0 x1 x2 x3 x4 x5 x6 x7 x8 x9 x10 x11
          have hwi : IntKind.i64.wrap ((i : Int) + 1) = (i : Int) + 1 := by rw [IntKind.wrap_i64]; omega
          have hbi : (0 : Int) ≤ (i : Int) ∧ (i : Int) < (l.length : Int) := by omega
          have z0 : wc.cell? ⟨w.heap.size, 0, none⟩ = some (.int .i64 key) := (blk_cell hxb 0).trans rfl
          have f0 : wc.frozen? ⟨w.heap.size, 0, none⟩ = false := blk_frozen hxb 0
          have z1 : wc.cell? ⟨w.heap.size, 1, none⟩ = some (.int .i64 t) := (blk_cell hxb 1).trans rfl
          have f1 : wc.frozen? ⟨w.heap.size, 1, none⟩ = false := blk_frozen hxb 1
          have z2 : wc.cell? ⟨w.heap.size, 2, none⟩ = some (.int .i64 0) := (blk_cell hxb 2).trans rfl
          have f2 : wc.frozen? ⟨w.heap.size, 2, none⟩ = false := blk_frozen hxb 2
          have z3 : wc.cell? ⟨w.heap.size, 3, none⟩ = some (.int .i64 0) := (blk_cell hxb 3).trans rfl
          have f3 : wc.frozen? ⟨w.heap.size, 3, none⟩ = false := blk_frozen hxb 3
          have z4 : wc.cell? ⟨w.heap.size, 4, none⟩ = some (.int .i64 0) := (blk_cell hxb 4).trans rfl
          have f4 : wc.frozen? ⟨w.heap.size, 4, none⟩ = false := blk_frozen hxb 4
          have z5 : wc.cell? ⟨w.heap.size, 5, none⟩ = some (.int .i64 0) := (blk_cell hxb 5).trans rfl
          have f5 : wc.frozen? ⟨w.heap.size, 5, none⟩ = false := blk_frozen hxb 5
          have z6 : wc.cell? ⟨w.heap.size, 6, none⟩ = some (.int .i64 0) := (blk_cell hxb 6).trans rfl
          have f6 : wc.frozen? ⟨w.heap.size, 6, none⟩ = false := blk_frozen hxb 6
          have z7 : wc.cell? ⟨w.heap.size, 7, none⟩ = some (.int .i64 0) := (blk_cell hxb 7).trans rfl
          have f7 : wc.frozen? ⟨w.heap.size, 7, none⟩ = false := blk_frozen hxb 7
          have z8 : wc.cell? ⟨w.heap.size, 8, none⟩ = some (.int .i64 0) := (blk_cell hxb 8).trans rfl
          have f8 : wc.frozen? ⟨w.heap.size, 8, none⟩ = false := blk_frozen hxb 8
          have z9 : wc.cell? ⟨w.heap.size, 9, none⟩ = some (.int .i64 0) := (blk_cell hxb 9).trans rfl
          have f9 : wc.frozen? ⟨w.heap.size, 9, none⟩ = false := blk_frozen hxb 9
          have z10 : wc.cell? ⟨w.heap.size, 10, none⟩ = some (.int .i64 0) := (blk_cell hxb 10).trans rfl
          have f10 : wc.frozen? ⟨w.heap.size, 10, none⟩ = false := blk_frozen hxb 10
          have z11 : wc.cell? ⟨w.heap.size, 11, none⟩ = some (.int .i64 0) := (blk_cell hxb 11).trans rfl
          have f11 : wc.frozen? ⟨w.heap.size, 11, none⟩ = false := blk_frozen hxb 11
          have HXB := Lib.hid hxb
          have HBW := Lib.hid hBW
          have hsz := HSZ.out
          clear hxb hBW hy
          go_wp2
          go_meet
          case rel => exact ⟨by rw [hj]; first | rfl | (congr 1), put12_heap HXB.out (.int .i64 y.f0) (.int .i64 y.f1) (.int .i64 y.f2.f0) (.int .i64 y.f2.f1) (.int .i64 y.f2.f2) (.int .i64 y.f2.f3) (.int .i64 y.f2.f4.f0) (.int .i64 y.f2.f4.f1) (.int .i64 y.f2.f4.f2) (.int .i64 y.f2.f4.f3) (.int .i64 y.f2.f5) (.int .i64 y.f2.f6), R_ok (R_other (R_base HRw.out (Nat.le_refl _) (Nat.le_refl _)) (fun k hk => put12_other (by omega) (.int .i64 y.f0) (.int .i64 y.f1) (.int .i64 y.f2.f0) (.int .i64 y.f2.f1) (.int .i64 y.f2.f2) (.int .i64 y.f2.f3) (.int .i64 y.f2.f4.f0) (.int .i64 y.f2.f4.f1) (.int .i64 y.f2.f4.f2) (.int .i64 y.f2.f4.f3) (.int .i64 y.f2.f5) (.int .i64 y.f2.f6))) (fun _ _ => trivial), put12_below HBW.out (Nat.le_refl _) (.int .i64 y.f0) (.int .i64 y.f1) (.int .i64 y.f2.f0) (.int .i64 y.f2.f1) (.int .i64 y.f2.f2) (.int .i64 y.f2.f3) (.int .i64 y.f2.f4.f0) (.int .i64 y.f2.f4.f1) (.int .i64 y.f2.f4.f2) (.int .i64 y.f2.f4.f3) (.int .i64 y.f2.f5) (.int .i64 y.f2.f6)⟩
      case rest =>
        obtain ⟨e11, hbox, hR, hbd⟩ := hcut
        subst e11
        have z2 : wc.cell? ⟨w.heap.size, 2, none⟩ = some (.int .i64 y.f2.f0) := (blk_cell hbox 2).trans rfl
        have z3 : wc.cell? ⟨w.heap.size, 3, none⟩ = some (.int .i64 y.f2.f1) := (blk_cell hbox 3).trans rfl
        have z4 : wc.cell? ⟨w.heap.size, 4, none⟩ = some (.int .i64 y.f2.f2) := (blk_cell hbox 4).trans rfl
        have z5 : wc.cell? ⟨w.heap.size, 5, none⟩ = some (.int .i64 y.f2.f3) := (blk_cell hbox 5).trans rfl
        have z6 : wc.cell? ⟨w.heap.size, 6, none⟩ = some (.int .i64 y.f2.f4.f0) := (blk_cell hbox 6).trans rfl
        have z7 : wc.cell? ⟨w.heap.size, 7, none⟩ = some (.int .i64 y.f2.f4.f1) := (blk_cell hbox 7).trans rfl
        have z8 : wc.cell? ⟨w.heap.size, 8, none⟩ = some (.int .i64 y.f2.f4.f2) := (blk_cell hbox 8).trans rfl
        have z9 : wc.cell? ⟨w.heap.size, 9, none⟩ = some (.int .i64 y.f2.f4.f3) := (blk_cell hbox 9).trans rfl
        have z10 : wc.cell? ⟨w.heap.size, 10, none⟩ = some (.int .i64 y.f2.f5) := (blk_cell hbox 10).trans rfl
        have z11 : wc.cell? ⟨w.heap.size, 11, none⟩ = some (.int .i64 y.f2.f6) := (blk_cell hbox 11).trans rfl
        have hadd := fun w => addR_calls y.f2 v HYI.out v0 v1 w
        obtain ⟨q, hq⟩ : ∃ q, addP y.f2 v = q := ⟨_, rfl⟩
        have htt := HTT.out
        rw [hq] at hadd htt
        have HADD := Lib.hid hadd
        have HTQ := Lib.hid htt
        have HBX2 := Lib.hid hbox
        have HRd := Lib.hid hR
        have HBd := Lib.hid hbd
        clear hadd hq htt hbox hR hbd HTT HYI HRw HBw HR2 HBR HFL
        go_upto_region 11 with (first | (go_at_call 51; go_loud ((with_reducible refine (HADD.out _).mono ?_); rintro e w5 ⟨rfl, hb5⟩; have hx5 := blk_below HBX2.out hb5; have z2 : w5.cell? ⟨w.heap.size, 2, none⟩ = some (.int .i64 y.f2.f0) := (blk_cell hx5 2).trans rfl; have z3 : w5.cell? ⟨w.heap.size, 3, none⟩ = some (.int .i64 y.f2.f1) := (blk_cell hx5 3).trans rfl; have z4 : w5.cell? ⟨w.heap.size, 4, none⟩ = some (.int .i64 y.f2.f2) := (blk_cell hx5 4).trans rfl; have z5 : w5.cell? ⟨w.heap.size, 5, none⟩ = some (.int .i64 y.f2.f3) := (blk_cell hx5 5).trans rfl; have z6 : w5.cell? ⟨w.heap.size, 6, none⟩ = some (.int .i64 y.f2.f4.f0) := (blk_cell hx5 6).trans rfl; have z7 : w5.cell? ⟨w.heap.size, 7, none⟩ = some (.int .i64 y.f2.f4.f1) := (blk_cell hx5 7).trans rfl; have z8 : w5.cell? ⟨w.heap.size, 8, none⟩ = some (.int .i64 y.f2.f4.f2) := (blk_cell hx5 8).trans rfl; have z9 : w5.cell? ⟨w.heap.size, 9, none⟩ = some (.int .i64 y.f2.f4.f3) := (blk_cell hx5 9).trans rfl; have z10 : w5.cell? ⟨w.heap.size, 10, none⟩ = some (.int .i64 y.f2.f5) := (blk_cell hx5 10).trans rfl; have z11 : w5.cell? ⟨w.heap.size, 11, none⟩ = some (.int .i64 y.f2.f6) := (blk_cell hx5 11).trans rfl; have f2 : w5.frozen? ⟨w.heap.size, 2, none⟩ = false := blk_frozen hx5 2; have f3 : w5.frozen? ⟨w.heap.size, 3, none⟩ = false := blk_frozen hx5 3; have f4 : w5.frozen? ⟨w.heap.size, 4, none⟩ = false := blk_frozen hx5 4; have f5 : w5.frozen? ⟨w.heap.size, 5, none⟩ = false := blk_frozen hx5 5; have f6 : w5.frozen? ⟨w.heap.size, 6, none⟩ = false := blk_frozen hx5 6; have f7 : w5.frozen? ⟨w.heap.size, 7, none⟩ = false := blk_frozen hx5 7; have f8 : w5.frozen? ⟨w.heap.size, 8, none⟩ = false := blk_frozen hx5 8; have f9 : w5.frozen? ⟨w.heap.size, 9, none⟩ = false := blk_frozen hx5 9; have f10 : w5.frozen? ⟨w.heap.size, 10, none⟩ = false := blk_frozen hx5 10; have f11 : w5.frozen? ⟨w.heap.size, 11, none⟩ = false := blk_frozen hx5 11; have HX5 := Lib.hid hx5; have HB5 := Lib.hid hb5; clear hx5 hb5)))
        change Code.wp _ _ _ _ (put10 w5 w.heap.size (.int .i64 q.f0) (.int .i64 q.f1) (.int .i64 q.f2) (.int .i64 q.f3) (.int .i64 q.f4.f0) (.int .i64 q.f4.f1) (.int .i64 q.f4.f2) (.int .i64 q.f4.f3) (.int .i64 q.f5) (.int .i64 q.f6))
        obtain ⟨W6, hW6⟩ : ∃ W, W = put10 w5 w.heap.size (.int .i64 q.f0) (.int .i64 q.f1) (.int .i64 q.f2) (.int .i64 q.f3) (.int .i64 q.f4.f0) (.int .i64 q.f4.f1) (.int .i64 q.f4.f2) (.int .i64 q.f4.f3) (.int .i64 q.f5) (.int .i64 q.f6) := ⟨_, rfl⟩
        rw [← hW6]
        have hx6 : W6.heap[w.heap.size]? = some (.cells (c12 ⟨y.f0, y.f1, q⟩).toArray 46 (0, 0)) := by rw [hW6]; exact put10_heap HX5.out (.int .i64 q.f0) (.int .i64 q.f1) (.int .i64 q.f2) (.int .i64 q.f3) (.int .i64 q.f4.f0) (.int .i64 q.f4.f1) (.int .i64 q.f4.f2) (.int .i64 q.f4.f3) (.int .i64 q.f5) (.int .i64 q.f6)
        have hb6 : Below w.heap.size w W6 := by rw [hW6]; exact put10_below (HBd.out.trans (HB5.out.mono HBd.out.size)) (Nat.le_refl _) (.int .i64 q.f0) (.int .i64 q.f1) (.int .i64 q.f2) (.int .i64 q.f3) (.int .i64 q.f4.f0) (.int .i64 q.f4.f1) (.int .i64 q.f4.f2) (.int .i64 q.f4.f3) (.int .i64 q.f5) (.int .i64 q.f6)
        have hR6 : Kd.R k46 46 W6 w.heap.size (fun _ => True) (.slice A2 i c2) (l.take i) := by
          have hsz := HSZ.out
          rw [hW6]
          exact R_ok (R_other (R_base (b := w.heap.size) (c := W1.heap.size) (Kd.R_below HRd.out HB5.out) (by omega) (Nat.le_refl _)) (fun k hk => put10_other (by omega) (.int .i64 q.f0) (.int .i64 q.f1) (.int .i64 q.f2) (.int .i64 q.f3) (.int .i64 q.f4.f0) (.int .i64 q.f4.f1) (.int .i64 q.f4.f2) (.int .i64 q.f4.f3) (.int .i64 q.f5) (.int .i64 q.f6))) (fun _ _ => trivial)
        clear hW6 z2 f2 z3 f3 z4 f4 z5 f5 z6 f6 z7 f7 z8 f8 z9 f9 z10 f10 z11 f11
        have z0 : W6.cell? ⟨w.heap.size, 0, none⟩ = some (.int .i64 y.f0) := (blk_cell hx6 0).trans rfl
        have z1 : W6.cell? ⟨w.heap.size, 1, none⟩ = some (.int .i64 y.f1) := (blk_cell hx6 1).trans rfl
        have z2 : W6.cell? ⟨w.heap.size, 2, none⟩ = some (.int .i64 q.f0) := (blk_cell hx6 2).trans rfl
        have z3 : W6.cell? ⟨w.heap.size, 3, none⟩ = some (.int .i64 q.f1) := (blk_cell hx6 3).trans rfl
        have z4 : W6.cell? ⟨w.heap.size, 4, none⟩ = some (.int .i64 q.f2) := (blk_cell hx6 4).trans rfl
        have z5 : W6.cell? ⟨w.heap.size, 5, none⟩ = some (.int .i64 q.f3) := (blk_cell hx6 5).trans rfl
        have z6 : W6.cell? ⟨w.heap.size, 6, none⟩ = some (.int .i64 q.f4.f0) := (blk_cell hx6 6).trans rfl
        have z7 : W6.cell? ⟨w.heap.size, 7, none⟩ = some (.int .i64 q.f4.f1) := (blk_cell hx6 7).trans rfl
        have z8 : W6.cell? ⟨w.heap.size, 8, none⟩ = some (.int .i64 q.f4.f2) := (blk_cell hx6 8).trans rfl
        have z9 : W6.cell? ⟨w.heap.size, 9, none⟩ = some (.int .i64 q.f4.f3) := (blk_cell hx6 9).trans rfl
        have z10 : W6.cell? ⟨w.heap.size, 10, none⟩ = some (.int .i64 q.f5) := (blk_cell hx6 10).trans rfl
        have z11 : W6.cell? ⟨w.heap.size, 11, none⟩ = some (.int .i64 q.f6) := (blk_cell hx6 11).trans rfl
        have hba := (Below.refl W6.heap.size W6).alloc (Nat.le_refl _) (.cells #[.int .i64 y.f0, .int .i64 y.f1, .int .i64 q.f0, .int .i64 q.f1, .int .i64 q.f2, .int .i64 q.f3, .int .i64 q.f4.f0, .int .i64 q.f4.f1, .int .i64 q.f4.f2, .int .i64 q.f4.f3, .int .i64 q.f5, .int .i64 q.f6] 46)
        have hC7 : k46.C (W6.alloc (.cells #[.int .i64 y.f0, .int .i64 y.f1, .int .i64 q.f0, .int .i64 q.f1, .int .i64 q.f2, .int .i64 q.f3, .int .i64 q.f4.f0, .int .i64 q.f4.f1, .int .i64 q.f4.f2, .int .i64 q.f4.f3, .int .i64 q.f5, .int .i64 q.f6] 46)) (some ⟨W6.heap.size, 0, none⟩) 1 [(⟨y.f0, y.f1, q⟩ : S46)] := one_C (heap_alloc_new _ _)
        have HC7 := Lib.hid hC7
        have HR7 := Lib.hid (Kd.R_below hR6 hba)
        have HB7 := Lib.hid (hb6.trans (hba.mono hb6.size))
        have htl : (l.take i).length ≤ 1000 := by rw [List.length_take]; omega
        have HTL := Lib.hid htl
        have hdl : (l.drop j).length = l.length - j := List.length_drop
        have HDL := Lib.hid hdl
        have hcc := fun (W : World) (hb : Below w.heap.size w W) => cut46_C (c := c) (Kd.C_below HCW.out hb) hjl hc
        have hbj : (0 : Int) ≤ (j : Int) ∧ (j : Int) ≤ (l.length : Int) ∧ (j : Int) ≤ (c : Int) ∧ (l.length : Int) ≤ (c : Int) := by omega
        rw [hdl] at hcc
        clear hx6 hb6 hR6 hba hC7 htl hdl HC1 HCW
        by_cases hcj : c = j
        · have hcj2 : ((c : Int) == (j : Int)) = true := beq_iff_eq.2 (by omega)
          rw [if_pos hcj] at hcc
          have HCC := Lib.hid hcc
          clear hcc
          go_wp2_with (first | ((with_reducible refine gate_builtin (b := .append) (xs := #[.tmp 60, .tmp 62]) rfl ?_); (try (refine gate_guard (by rfl) ?_; dsimp only)); at_builtin; refine Kd.R_append_rows k46 (w0 := w) w.heap.size rfl (.tmp 60) (.tmp 62) 26 46 (.agg #[(.int .i64 0), (.int .i64 0), (.int .i64 0), (.int .i64 0), (.int .i64 0), (.int .i64 0), (.int .i64 0), (.int .i64 0), (.int .i64 0), (.int .i64 0), (.int .i64 0), (.int .i64 0)]) 96 rfl Try.underlying26 info46 rfl (by decide) (by omega) (.slice A2 i c2) (l.take i) [(⟨y.f0, y.f1, q⟩ : S46)] _ _ _ (fun _ => True) (fun _ => False) rfl rfl HR7.out HC7.out (fun _ _ h => by obtain rfl := k46_open h; exact k46_mkM _ _ _ _) (fun _ h => h.elim) (fun _ _ => trivial) HB7.out HB7.out.size ?aL ?_; (case aL => have h_ := HTL.out; first | omega | (simp at h_ ⊢; omega)); intro v8 w8 hR8 hb8 hg8 hat8; obtain ⟨A3, c3, hv3, hc3, _⟩ := Kd.R_reads hR8; subst hv3; have hl8 : (l.take i ++ [(⟨y.f0, y.f1, q⟩ : S46)]).length ≤ 1001 := (by have h_ := HTL.out; simp at h_ ⊢; omega); have HL8 := Lib.hid hl8; obtain ⟨Z8, hZ8⟩ : ∃ Z, l.take i ++ [(⟨y.f0, y.f1, q⟩ : S46)] = Z := ⟨_, rfl⟩; rw [hZ8] at hR8 HL8; have HZ8 := Lib.hid hZ8; have HR8 := Lib.hid hR8; have HB8 := Lib.hid hb8; (try rw [hZ8]); clear hl8 hR8 hb8 hg8 hat8 hc3 hZ8) | ((with_reducible refine gate_builtin (b := .append) (xs := #[.tmp 64, .tmp 67]) rfl ?_); (try (refine gate_guard (by rfl) ?_; dsimp only)); at_builtin; refine Kd.R_append_rows k46 (w0 := w) w.heap.size rfl (.tmp 64) (.tmp 67) 26 46 (.agg #[(.int .i64 0), (.int .i64 0), (.int .i64 0), (.int .i64 0), (.int .i64 0), (.int .i64 0), (.int .i64 0), (.int .i64 0), (.int .i64 0), (.int .i64 0), (.int .i64 0), (.int .i64 0)]) 96 rfl Try.underlying26 info46 rfl (by decide) (by omega) (.slice A3 Z8.length c3) Z8 (l.drop j) _ _ _ (fun _ => True) (fun _ => False) rfl rfl HR8.out (HCC.out _ HB8.out) (fun _ _ h => by obtain rfl := k46_open h; exact k46_mkM _ _ _ _) (fun _ h => h.elim) (fun _ _ => trivial) HB8.out HB8.out.size ?aL ?_; (case aL => have h_ := HL8.out; have h2_ := HDL.out; omega); intro v9 w9 hR9 hb9 hg9 hat9; have HR9 := Lib.hid hR9; have HB9 := Lib.hid hb9; clear hR9 hb9 hg9 hat9))
          go_ret
          have hr9 := HR9.out
          rw [← HZ8.out, ← HTQ.out] at hr9
          exact ⟨_, rfl, hr9, HB9.out⟩
        · rw [if_neg hcj] at hcc
          have HCC := Lib.hid hcc
          clear hcc
          go_wp2_with (first | ((with_reducible refine gate_builtin (b := .append) (xs := #[.tmp 60, .tmp 62]) rfl ?_); (try (refine gate_guard (by rfl) ?_; dsimp only)); at_builtin; refine Kd.R_append_rows k46 (w0 := w) w.heap.size rfl (.tmp 60) (.tmp 62) 26 46 (.agg #[(.int .i64 0), (.int .i64 0), (.int .i64 0), (.int .i64 0), (.int .i64 0), (.int .i64 0), (.int .i64 0), (.int .i64 0), (.int .i64 0), (.int .i64 0), (.int .i64 0), (.int .i64 0)]) 96 rfl Try.underlying26 info46 rfl (by decide) (by omega) (.slice A2 i c2) (l.take i) [(⟨y.f0, y.f1, q⟩ : S46)] _ _ _ (fun _ => True) (fun _ => False) rfl rfl HR7.out HC7.out (fun _ _ h => by obtain rfl := k46_open h; exact k46_mkM _ _ _ _) (fun _ h => h.elim) (fun _ _ => trivial) HB7.out HB7.out.size ?aL ?_; (case aL => have h_ := HTL.out; first | omega | (simp at h_ ⊢; omega)); intro v8 w8 hR8 hb8 hg8 hat8; obtain ⟨A3, c3, hv3, hc3, _⟩ := Kd.R_reads hR8; subst hv3; have hl8 : (l.take i ++ [(⟨y.f0, y.f1, q⟩ : S46)]).length ≤ 1001 := (by have h_ := HTL.out; simp at h_ ⊢; omega); have HL8 := Lib.hid hl8; obtain ⟨Z8, hZ8⟩ : ∃ Z, l.take i ++ [(⟨y.f0, y.f1, q⟩ : S46)] = Z := ⟨_, rfl⟩; rw [hZ8] at hR8 HL8; have HZ8 := Lib.hid hZ8; have HR8 := Lib.hid hR8; have HB8 := Lib.hid hb8; (try rw [hZ8]); clear hl8 hR8 hb8 hg8 hat8 hc3 hZ8) | ((with_reducible refine gate_builtin (b := .append) (xs := #[.tmp 64, .tmp 67]) rfl ?_); (try (refine gate_guard (by rfl) ?_; dsimp only)); at_builtin; refine Kd.R_append_rows k46 (w0 := w) w.heap.size rfl (.tmp 64) (.tmp 67) 26 46 (.agg #[(.int .i64 0), (.int .i64 0), (.int .i64 0), (.int .i64 0), (.int .i64 0), (.int .i64 0), (.int .i64 0), (.int .i64 0), (.int .i64 0), (.int .i64 0), (.int .i64 0), (.int .i64 0)]) 96 rfl Try.underlying26 info46 rfl (by decide) (by omega) (.slice A3 Z8.length c3) Z8 (l.drop j) _ _ _ (fun _ => True) (fun _ => False) rfl rfl HR8.out (HCC.out _ HB8.out) (fun _ _ h => by obtain rfl := k46_open h; exact k46_mkM _ _ _ _) (fun _ h => h.elim) (fun _ _ => trivial) HB8.out HB8.out.size ?aL ?_; (case aL => have h_ := HL8.out; have h2_ := HDL.out; omega); intro v9 w9 hR9 hb9 hg9 hat9; have HR9 := Lib.hid hR9; have HB9 := Lib.hid hb9; clear hR9 hb9 hg9 hat9))
          go_ret
          have hr9 := HR9.out
          rw [← HZ8.out, ← HTQ.out] at hr9
          exact ⟨_, rfl, hr9, HB9.out⟩
end
end Go.Proofs.Ytgipepjpkmlmaaa.P
