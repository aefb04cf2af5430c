import Derived.Test.YtgipepjpkmlmaaaQO2
import Derived.Test.YtgipepjpkmlmaaaQO3
import Derived.Test.YtgipepjpkmlmaaaQO4
import Derived.Test.YtgipepjpkmlmaaaQO5
import Derived.Test.YtgipepjpkmlmaaaQO7
namespace Go.Proofs.Ytgipepjpkmlmaaa.P
open Go.RowKit Go.Proofs.YtgipepjpkmlmaaaW.PrintWords Go.Proofs.YtgipepjpkmlmaaaW.PrintLast Go.Proofs.YtgipepjpkmlmaaaW.PrintMore
set_option linter.unusedVariables false
set_option linter.unusedSimpArgs false
/-- When an aggregate may be. -/
structure okC (a : S44) : Prop where
  c0 : 1 ≤ a.f0
  c1 : a.f0 ≤ 1099511627776
  lo : a.f2 ≤ a.f3
  h0 : 0 ≤ a.f4.f0
  h1 : 0 ≤ a.f4.f1
  h2 : 0 ≤ a.f4.f2
  h3 : 0 ≤ a.f4.f3
  sum : a.f4.f0 + a.f4.f1 + a.f4.f2 + a.f4.f3 = a.f0
  pp : a.f5 + a.f6 ≤ a.f0
  pm : a.f5 - a.f6 ≤ a.f0
  mp : -a.f5 + a.f6 ≤ a.f0
  mm : -a.f5 - a.f6 ≤ a.f0
theorem far_in (n c : Int) (h3 : 1 ≤ c) (h4 : c ≤ 1099511627776) (h5 : -c ≤ n) (h6 : n ≤ c) : farC n c = (mx n (-n), true) := by
  have hw : wrap64 (-c) = -c := by unfold wrap64; omega
  have hn : wrap64 (-n) = -n := by unfold wrap64; omega
  unfold farC
  rw [hw, hn, if_neg (by omega)]
theorem far_out (n c : Int) (h3 : 1 ≤ c) (h4 : c ≤ 1099511627776) (h : (farC n c).2 = true) : -c ≤ n ∧ n ≤ c := by
  have hw : wrap64 (-c) = -c := by unfold wrap64; omega
  unfold farC at h
  rw [hw] at h
  by_cases q : n < -c ∨ c < n
  · rw [if_pos q] at h; cases h
  · omega
theorem mx_abs (n : Int) : mx n (-n) = n ∧ -n ≤ n ∨ mx n (-n) = -n ∧ n ≤ -n := by unfold mx; split <;> omega
theorem aggOk_iff (a : S44) : aggOk a = true ↔ okC a := by
  obtain ⟨c, s, m, x, ⟨h0, h1, h2, h3⟩, re, im⟩ := a
  constructor
  · intro h
    unfold aggOk at h
    simp only [aggSt, hist, Bool.and_eq_true, decide_eq_true_eq, beq_iff_eq] at h
    obtain ⟨⟨⟨⟨⟨⟨p1, p2, p3⟩, p4, p5⟩, p6, p7⟩, p8, p9⟩, p10, p11⟩, p12, p13, p14, p15⟩ := h
    have e1 : wrap64 (c - h0) = c - h0 := by unfold wrap64; omega
    rw [e1] at p7 p9 p11 p12
    have e2 : wrap64 (c - h0 - h1) = c - h0 - h1 := by unfold wrap64; omega
    rw [e2] at p9 p11 p12
    have e3 : wrap64 (c - h0 - h1 - h2) = c - h0 - h1 - h2 := by unfold wrap64; omega
    rw [e3] at p11 p12
    have e4 : wrap64 (c - h0 - h1 - h2 - h3) = c - h0 - h1 - h2 - h3 := by unfold wrap64; omega
    rw [e4] at p12
    have f1 := far_out re c p1 p2 p13
    have f2 := far_out im c p1 p2 p14
    rw [far_in re c p1 p2 f1.1 f1.2, far_in im c p1 p2 f2.1 f2.2] at p15
    simp only at p15
    have m1 := mx_abs re
    have m2 := mx_abs im
    have e5 : wrap64 (mx re (-re) + mx im (-im)) = mx re (-re) + mx im (-im) := by unfold wrap64; omega
    rw [e5] at p15
    constructor <;> simp only <;> omega
  · rintro ⟨c0, c1, lo, h0', h1', h2', h3', sum, pp, pm, mp, mm⟩
    simp only at c0 c1 lo h0' h1' h2' h3' sum pp pm mp mm
    have e1 : wrap64 (c - h0) = c - h0 := by unfold wrap64; omega
    have e2 : wrap64 (c - h0 - h1) = c - h0 - h1 := by unfold wrap64; omega
    have e3 : wrap64 (c - h0 - h1 - h2) = c - h0 - h1 - h2 := by unfold wrap64; omega
    have e4 : wrap64 (c - h0 - h1 - h2 - h3) = c - h0 - h1 - h2 - h3 := by unfold wrap64; omega
    have m1 := mx_abs re
    have m2 := mx_abs im
    have e5 : wrap64 (mx re (-re) + mx im (-im)) = mx re (-re) + mx im (-im) := by unfold wrap64; omega
    unfold aggOk
    simp only [aggSt, hist, Bool.and_eq_true, decide_eq_true_eq, beq_iff_eq, e1, e2, e3, e4, far_in re c c0 c1 (by omega) (by omega), far_in im c c0 c1 (by omega) (by omega), e5]
    refine ⟨⟨⟨⟨⟨⟨?_, ?_, ?_⟩, ?_, ?_⟩, ?_, ?_⟩, ?_, ?_⟩, ?_, ?_⟩, ?_, ?_, ?_, ?_⟩ <;> first | rfl | exact trivial | omega
theorem aggOk_no {a : S44} (h : ¬ okC a) : aggOk a = false := by
  cases e : aggOk a with
  | false => rfl
  | true => exact absurd ((aggOk_iff a).1 e) h
set_option maxHeartbeats 16000000 in
set_option maxRecDepth 100000 in
theorem mayA_calls (a : S44) (w : World) : Calls Try.prog 67 #[aggV a] w fun e w' => e = .returned (.bool (aggOk a)) ∧ Below w.heap.size w w' := by
  have hno := @aggOk_no a
  have hyes := (aggOk_iff a).2
  obtain ⟨q, hq⟩ : ∃ q, aggOk a = q := ⟨_, rfl⟩
  rw [hq] at hno hyes ⊢
  clear hq
  obtain ⟨c, s, m, x, ⟨h0, h1, h2, h3⟩, re, im⟩ := a
  have hno' : (okC ⟨c, s, m, x, ⟨h0, h1, h2, h3⟩, re, im⟩ → False) → q = false := hno
  clear hno
  have hu := Try.underlying44
  by_cases c0 : c < 1
  · have b0 : decide (c < 1) = true := decide_eq_true c0
    obtain rfl := hno' (fun h => by have := h.c0; simp only at this; omega)
    go_enter Try.func67, Try.ntmps67
    go_wp2
    go_ret
    exact ⟨rfl, below_alloc (Below.refl _ _) _⟩
  have b0 : decide (c < 1) = false := decide_eq_false c0
  by_cases c1 : 1099511627776 < c
  · have b1 : decide (1099511627776 < c) = true := decide_eq_true c1
    obtain rfl := hno' (fun h => by have := h.c1; simp only at this; omega)
    go_enter Try.func67, Try.ntmps67
    go_wp2
    go_ret
    exact ⟨rfl, below_alloc (Below.refl _ _) _⟩
  have b1 : decide (1099511627776 < c) = false := decide_eq_false c1
  by_cases c2 : x < m
  · have b2 : decide (x < m) = true := decide_eq_true c2
    obtain rfl := hno' (fun h => by have := h.lo; simp only at this; omega)
    go_enter Try.func67, Try.ntmps67
    go_wp2
    go_ret
    exact ⟨rfl, below_alloc (Below.refl _ _) _⟩
  have b2 : decide (x < m) = false := decide_eq_false c2
  go_enter Try.func67, Try.ntmps67
  go_upto_region 4 with fail
  go_wp2
  go_loopg [3, 4] 4 (fun kq v3 v4 WX => ∃ (k : Nat), k ≤ 4 ∧ v4 = .int .i64 (k : Int) ∧ v3 = .int .i64 (sumH h0 h1 h2 h3 k) ∧ 4 - k ≤ kq ∧ (0 < k → 0 ≤ h0 ∧ h0 ≤ 1099511627776) ∧ (1 < k → 0 ≤ h1 ∧ h1 ≤ 1099511627776) ∧ (2 < k → 0 ≤ h2 ∧ h2 ≤ 1099511627776) ∧ (3 < k → 0 ≤ h3 ∧ h3 ≤ 1099511627776) ∧ WX = (w.alloc (.cells #[.int .i64 c, .int .i64 s, .int .i64 m, .int .i64 x, .int .i64 h0, .int .i64 h1, .int .i64 h2, .int .i64 h3, .int .i64 re, .int .i64 im] 44)))
  case atStart => exact ⟨0, by omega, rfl, rfl, by omega, by omega, by omega, by omega, by omega, rfl⟩
  case round =>
    obtain ⟨k, hk, rfl, rfl, hkq, r0, r1, r2, r3, rfl⟩ := hrel
    by_cases hk4 : k = 4
    · subst hk4
      have r0 := r0 (by omega)
      have r1 := r1 (by omega)
      have r2 := r2 (by omega)
      have r3 := r3 (by omega)
      have e : sumH h0 h1 h2 h3 4 = h0 + h1 + h2 + h3 := rfl
      obtain ⟨t, ht⟩ : ∃ t, sumH h0 h1 h2 h3 4 = t := ⟨_, rfl⟩
      rw [ht] at e ⊢
      clear ht
      by_cases s1 : t = c
      rotate_left
      · have b7 : (t == c) = false := beq_eq_false_iff_ne.mpr s1
        obtain rfl := hno' (fun h => by have := h.sum; simp only at this; omega)
        clear e hno' hyes
        go_wp2
        go_ret
        exact ⟨rfl, below_alloc (Below.refl _ _) _⟩
      subst s1
      have b7 : (t == t) = true := beq_self_eq_true t
      by_cases q3 : re < -1099511627776
      · have b3 : decide (re < -1099511627776) = true := decide_eq_true q3
        obtain rfl := hno' (fun h => by have h1 := h.pp; have h2 := h.pm; have h3 := h.mp; have h4 := h.mm; have h5 := h.c1; simp only at h1 h2 h3 h4 h5; omega)
        clear e hno' hyes
        go_wp2
        go_ret
        exact ⟨rfl, below_alloc (Below.refl _ _) _⟩
      have b3 : decide (re < -1099511627776) = false := decide_eq_false q3
      by_cases q4 : 1099511627776 < re
      · have b4 : decide (1099511627776 < re) = true := decide_eq_true q4
        obtain rfl := hno' (fun h => by have h1 := h.pp; have h2 := h.pm; have h3 := h.mp; have h4 := h.mm; have h5 := h.c1; simp only at h1 h2 h3 h4 h5; omega)
        clear e hno' hyes
        go_wp2
        go_ret
        exact ⟨rfl, below_alloc (Below.refl _ _) _⟩
      have b4 : decide (1099511627776 < re) = false := decide_eq_false q4
      by_cases q5 : im < -1099511627776
      · have b5 : decide (im < -1099511627776) = true := decide_eq_true q5
        obtain rfl := hno' (fun h => by have h1 := h.pp; have h2 := h.pm; have h3 := h.mp; have h4 := h.mm; have h5 := h.c1; simp only at h1 h2 h3 h4 h5; omega)
        clear e hno' hyes
        go_wp2
        go_ret
        exact ⟨rfl, below_alloc (Below.refl _ _) _⟩
      have b5 : decide (im < -1099511627776) = false := decide_eq_false q5
      by_cases q6 : 1099511627776 < im
      · have b6 : decide (1099511627776 < im) = true := decide_eq_true q6
        obtain rfl := hno' (fun h => by have h1 := h.pp; have h2 := h.pm; have h3 := h.mp; have h4 := h.mm; have h5 := h.c1; simp only at h1 h2 h3 h4 h5; omega)
        clear e hno' hyes
        go_wp2
        go_ret
        exact ⟨rfl, below_alloc (Below.refl _ _) _⟩
      have b6 : decide (1099511627776 < im) = false := decide_eq_false q6
      have HE := Lib.hid e
      clear e
      go_upto_region 12 with fail
      obtain ⟨WX, hWX⟩ : ∃ W, W = (w.alloc (.cells #[.int .i64 t, .int .i64 s, .int .i64 m, .int .i64 x, .int .i64 h0, .int .i64 h1, .int .i64 h2, .int .i64 h3, .int .i64 re, .int .i64 im] 44)) := ⟨_, rfl⟩
      have hblk : WX.heap[w.heap.size]? = some (.cells #[.int .i64 t, .int .i64 s, .int .i64 m, .int .i64 x, .int .i64 h0, .int .i64 h1, .int .i64 h2, .int .i64 h3, .int .i64 re, .int .i64 im] 44 (0, 0)) := by rw [hWX]; exact heap_alloc_new _ _
      have hbl : Below w.heap.size w WX := by rw [hWX]; exact below_alloc (Below.refl _ _) _
      rw [← hWX]
      have HRE := Lib.hid (show WX.cell? ⟨w.heap.size, 8, none⟩ = some (.int .i64 re) from (blk_cell hblk 8).trans rfl)
      have HIM := Lib.hid (show WX.cell? ⟨w.heap.size, 9, none⟩ = some (.int .i64 im) from (blk_cell hblk 9).trans rfl)
      have HC := Lib.hid (show WX.cell? ⟨w.heap.size, 0, none⟩ = some (.int .i64 t) from (blk_cell hblk 0).trans rfl)
      have HBL := Lib.hid hbl
      have e := HE.out
      have hq2 : q = decide (mx re (-re) + mx im (-im) ≤ t) := by
        have m1 := mx_abs re
        have m2 := mx_abs im
        by_cases z : mx re (-re) + mx im (-im) ≤ t
        · rw [decide_eq_true z]
          refine hyes ⟨?_, ?_, ?_, ?_, ?_, ?_, ?_, ?_, ?_, ?_, ?_, ?_⟩ <;> simp only <;> omega
        · rw [decide_eq_false z]
          exact hno' (fun h => by have h1 := h.pp; have h2 := h.pm; have h3 := h.mp; have h4 := h.mm; simp only at h1 h2 h3 h4; omega)
      clear hWX hblk hbl b0 b1 b2 b3 b4 b5 b6 b7 e hno' hyes
      refine wp_region_held_drew (S := fun w_ => Below WX.heap.size WX w_) (by kernel_rfl) (below_drew (Below.refl _ _)) (fun hS_ => ?_)
      have hS : Below WX.heap.size WX _ := hS_
      clear hS_
      change wpAnyH _ _ _ _ _ 6 #[false, false, false, false, false, false] _ _
      refine takeE 0 (some 68) #[true, false, false, false, false, false] hS ?_
      refine takeE 1 (some 69) #[true, true, false, false, false, false] hS ?_ (hy := fun w_ hS_ => by (replace hS_ : Below WX.heap.size WX w_ := hS_); have a0_ := below_cell hS_ HRE.out; go_simp <;> with_reducible rfl)
      refine takeE 2 (some 70) #[true, true, true, false, false, false] hS ?_
      refine takeE 3 (some 71) #[true, true, true, true, false, false] hS ?_ (hy := fun w_ hS_ => by (replace hS_ : Below WX.heap.size WX w_ := hS_); have a1_ := below_cell hS_ HIM.out; go_simp <;> with_reducible rfl)
      refine takeE 4 (some 5) #[true, true, true, true, true, false] hS ?_
      refine takeE 5 (some 6) #[true, true, true, true, true, true] hS ?_
      refine wpAnyH_done (by kernel_rfl) ?_ _
      try go_simp
      have hS2 := Lib.hid hS
      have z0 := below_cell hS HC.out
      clear hS
      have w0 : wrap64 (-re) = -re := by unfold wrap64; omega
      have w1 : wrap64 (-im) = -im := by unfold wrap64; omega
      by_cases s0 : re < 0
      · have d0 : decide (re < 0) = true := decide_eq_true s0
        have n0 : mx re (-re) = -re := by unfold mx; split <;> omega
        by_cases s1 : im < 0
        · have d1 : decide (im < 0) = true := decide_eq_true s1
          have n1 : mx im (-im) = -im := by unfold mx; split <;> omega
          rw [n0, n1] at hq2
          subst hq2
          have w2 : wrap64 (-re + -im) = -re + -im := by unfold wrap64; omega
          clear n0 n1
          go_wp2
          go_ret
          exact ⟨rfl, HBL.out.trans (hS2.out.mono HBL.out.size)⟩
        · have d1 : decide (im < 0) = false := decide_eq_false s1
          have n1 : mx im (-im) = im := by unfold mx; split <;> omega
          rw [n0, n1] at hq2
          subst hq2
          have w2 : wrap64 (-re + im) = -re + im := by unfold wrap64; omega
          clear n0 n1
          go_wp2
          go_ret
          exact ⟨rfl, HBL.out.trans (hS2.out.mono HBL.out.size)⟩
      · have d0 : decide (re < 0) = false := decide_eq_false s0
        have n0 : mx re (-re) = re := by unfold mx; split <;> omega
        by_cases s1 : im < 0
        · have d1 : decide (im < 0) = true := decide_eq_true s1
          have n1 : mx im (-im) = -im := by unfold mx; split <;> omega
          rw [n0, n1] at hq2
          subst hq2
          have w2 : wrap64 (re + -im) = re + -im := by unfold wrap64; omega
          clear n0 n1
          go_wp2
          go_ret
          exact ⟨rfl, HBL.out.trans (hS2.out.mono HBL.out.size)⟩
        · have d1 : decide (im < 0) = false := decide_eq_false s1
          have n1 : mx im (-im) = im := by unfold mx; split <;> omega
          rw [n0, n1] at hq2
          subst hq2
          have w2 : wrap64 (re + im) = re + im := by unfold wrap64; omega
          clear n0 n1
          go_wp2
          go_ret
          exact ⟨rfl, HBL.out.trans (hS2.out.mono HBL.out.size)⟩
    · have hlt : decide ((k : Int) < 4) = true := decide_eq_true (by omega)
      cases gk with
      | zero => omega
      | succ gk =>
      have hkk : k = 0 ∨ k = 1 ∨ k = 2 ∨ k = 3 := by omega
      rcases hkk with rfl | rfl | rfl | rfl
      · skip
        by_cases u0 : h0 < 0
        · have e0 : decide (h0 < 0) = true := decide_eq_true u0
          obtain rfl := hno' (fun h => by have := h.h0; simp only at this; omega)
          clear hno' hyes
          go_wp2
          go_ret
          exact ⟨rfl, below_alloc (Below.refl _ _) _⟩
        have e0 : decide (h0 < 0) = false := decide_eq_false u0
        by_cases u1 : 1099511627776 < h0
        · have e1 : decide (1099511627776 < h0) = true := decide_eq_true u1
          obtain rfl := hno' (fun h => by have h1 := h.h0; have h2 := h.h1; have h3 := h.h2; have h4 := h.h3; have h5 := h.sum; have h6 := h.c1; simp only at h1 h2 h3 h4 h5 h6; omega)
          clear hno' hyes
          go_wp2
          go_ret
          exact ⟨rfl, below_alloc (Below.refl _ _) _⟩
        have e1 : decide (1099511627776 < h0) = false := decide_eq_false u1
        have e2 : wrap64 (sumH h0 h1 h2 h3 0 + h0) = sumH h0 h1 h2 h3 1 := by simp only [sumH]; unfold wrap64; omega
        clear hno' hyes
        go_wp2
        go_roundg gk
        case measure => omega
        case rel => exact ⟨1, by omega, rfl, by first | rfl | (rw [← e2]; rfl) | (rw [← e2]), by omega, (fun _ => ⟨by omega, by omega⟩), (by omega), (by omega), (by omega), rfl⟩
      · have z0 := r0 (by omega); 
        by_cases u0 : h1 < 0
        · have e0 : decide (h1 < 0) = true := decide_eq_true u0
          obtain rfl := hno' (fun h => by have := h.h1; simp only at this; omega)
          clear hno' hyes
          go_wp2
          go_ret
          exact ⟨rfl, below_alloc (Below.refl _ _) _⟩
        have e0 : decide (h1 < 0) = false := decide_eq_false u0
        by_cases u1 : 1099511627776 < h1
        · have e1 : decide (1099511627776 < h1) = true := decide_eq_true u1
          obtain rfl := hno' (fun h => by have h1 := h.h0; have h2 := h.h1; have h3 := h.h2; have h4 := h.h3; have h5 := h.sum; have h6 := h.c1; simp only at h1 h2 h3 h4 h5 h6; omega)
          clear hno' hyes
          go_wp2
          go_ret
          exact ⟨rfl, below_alloc (Below.refl _ _) _⟩
        have e1 : decide (1099511627776 < h1) = false := decide_eq_false u1
        have e2 : wrap64 (sumH h0 h1 h2 h3 1 + h1) = sumH h0 h1 h2 h3 2 := by simp only [sumH]; unfold wrap64; omega
        clear hno' hyes
        go_wp2
        go_roundg gk
        case measure => omega
        case rel => exact ⟨2, by omega, rfl, by first | rfl | (rw [← e2]; rfl) | (rw [← e2]), by omega, (fun _ => r0 (by omega)), (fun _ => ⟨by omega, by omega⟩), (by omega), (by omega), rfl⟩
      · have z0 := r0 (by omega); have z1 := r1 (by omega); 
        by_cases u0 : h2 < 0
        · have e0 : decide (h2 < 0) = true := decide_eq_true u0
          obtain rfl := hno' (fun h => by have := h.h2; simp only at this; omega)
          clear hno' hyes
          go_wp2
          go_ret
          exact ⟨rfl, below_alloc (Below.refl _ _) _⟩
        have e0 : decide (h2 < 0) = false := decide_eq_false u0
        by_cases u1 : 1099511627776 < h2
        · have e1 : decide (1099511627776 < h2) = true := decide_eq_true u1
          obtain rfl := hno' (fun h => by have h1 := h.h0; have h2 := h.h1; have h3 := h.h2; have h4 := h.h3; have h5 := h.sum; have h6 := h.c1; simp only at h1 h2 h3 h4 h5 h6; omega)
          clear hno' hyes
          go_wp2
          go_ret
          exact ⟨rfl, below_alloc (Below.refl _ _) _⟩
        have e1 : decide (1099511627776 < h2) = false := decide_eq_false u1
        have e2 : wrap64 (sumH h0 h1 h2 h3 2 + h2) = sumH h0 h1 h2 h3 3 := by simp only [sumH]; unfold wrap64; omega
        clear hno' hyes
        go_wp2
        go_roundg gk
        case measure => omega
        case rel => exact ⟨3, by omega, rfl, by first | rfl | (rw [← e2]; rfl) | (rw [← e2]), by omega, (fun _ => r0 (by omega)), (fun _ => r1 (by omega)), (fun _ => ⟨by omega, by omega⟩), (by omega), rfl⟩
      · have z0 := r0 (by omega); have z1 := r1 (by omega); have z2 := r2 (by omega); 
        by_cases u0 : h3 < 0
        · have e0 : decide (h3 < 0) = true := decide_eq_true u0
          obtain rfl := hno' (fun h => by have := h.h3; simp only at this; omega)
          clear hno' hyes
          go_wp2
          go_ret
          exact ⟨rfl, below_alloc (Below.refl _ _) _⟩
        have e0 : decide (h3 < 0) = false := decide_eq_false u0
        by_cases u1 : 1099511627776 < h3
        · have e1 : decide (1099511627776 < h3) = true := decide_eq_true u1
          obtain rfl := hno' (fun h => by have h1 := h.h0; have h2 := h.h1; have h3 := h.h2; have h4 := h.h3; have h5 := h.sum; have h6 := h.c1; simp only at h1 h2 h3 h4 h5 h6; omega)
          clear hno' hyes
          go_wp2
          go_ret
          exact ⟨rfl, below_alloc (Below.refl _ _) _⟩
        have e1 : decide (1099511627776 < h3) = false := decide_eq_false u1
        have e2 : wrap64 (sumH h0 h1 h2 h3 3 + h3) = sumH h0 h1 h2 h3 4 := by simp only [sumH]; unfold wrap64; omega
        clear hno' hyes
        go_wp2
        go_roundg gk
        case measure => omega
        case rel => exact ⟨4, by omega, rfl, by first | rfl | (rw [← e2]; rfl) | (rw [← e2]), by omega, (fun _ => r0 (by omega)), (fun _ => r1 (by omega)), (fun _ => r2 (by omega)), (fun _ => ⟨by omega, by omega⟩), rfl⟩
end Go.Proofs.Ytgipepjpkmlmaaa.P
