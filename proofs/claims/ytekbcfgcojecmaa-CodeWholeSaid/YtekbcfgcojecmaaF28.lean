-- Written by this session's program drv.py, by means of the kit's printer; not a text of print.sh.
import Derived.Test.YtekbcfgcojecmaaF0
import Derived.Test.YtekbcfgcojecmaaF41
namespace Go.Proofs.Ytekbcfgcojecmaa.P
open Go.RowKit Go.Proofs.YtekbcfgcojecmaaW.PrintWords Go.Proofs.YtekbcfgcojecmaaW.PrintLast Go.Proofs.YtekbcfgcojecmaaW.PrintMore
attribute [local go_sem] max2_int min2_int max_two min_two max_three min_three max_four min_four   -- for this text's walks alone
set_option linter.unusedVariables false
set_option linter.unusedSimpArgs false

/-! ### tree_Apply: function 28 -/
def tree_Apply.j0 : Nat → Int → Int → Int → Int → Bool → Option (Int)
  | 0, _, _, _, _, _ => none
  | k + 1, x0, x1, x2, x7, x22 => if x22 = true then (if x2 = 0 then (some 0) else (if x0 = 8 then (some (wrap64 (Int.tdiv x1 x2))) else (some (Int.tmod x1 x2)))) else (if x7 = 10 then (some (wrap64 (x1 + x2))) else (if x7 = 11 then (some (wrap64 (x1 - x2))) else (if x7 = 12 then ((tree_truth.f (x1 == x2)).bind fun t152 => (some t152)) else (if x7 = 13 then ((tree_truth.f (x1 != x2)).bind fun t153 => (some t153)) else (if x7 = 14 then ((tree_truth.f (decide (x1 < x2))).bind fun t154 => (some t154)) else (if x7 = 15 then ((tree_truth.f (decide (x1 ≤ x2))).bind fun t155 => (some t155)) else (if x7 = 16 then ((tree_truth.f (decide (x1 > x2))).bind fun t156 => (some t156)) else (if x7 = 17 then ((tree_truth.f (decide (x1 ≥ x2))).bind fun t157 => (some t157)) else (if x7 = 18 then (if x1 = 0 then ((tree_truth.f false).bind fun t158 => (some t158)) else ((tree_truth.f (x2 != 0)).bind fun t159 => (some t159))) else (if x7 = 19 then (if x1 = 0 then ((tree_truth.f (x2 != 0)).bind fun t160 => (some t160)) else ((tree_truth.f true).bind fun t161 => (some t161))) else (if x7 = 20 then (some (mn x1 x2)) else (if x7 = 21 then (some (mx x1 x2)) else (some 0)))))))))))))
def tree_Apply.f (k : Nat) (a0 : Int) (a1 : Int) (a2 : Int) : Option (Int) := if a0 = 5 then (some (wrap64 (-a1))) else (if a0 = 6 then ((tree_truth.f (a1 == 0)).bind fun t151 => (some t151)) else (if a0 = 7 then (some (wrap64 (a1 * a2))) else (if a0 = 8 then (tree_Apply.j0 k a0 a1 a2 a0 (a0 == 8)) else (tree_Apply.j0 k a0 a1 a2 a0 (a0 == 9)))))
theorem tree_Apply.mono_l : ∀ k, (∀ y0 y1 y2 y3 y4, LeO (tree_Apply.j0 k y0 y1 y2 y3 y4) (tree_Apply.j0 (k + 1) y0 y1 y2 y3 y4))
  | 0 => fun _ _ _ _ _ r h => by simp [tree_Apply.j0] at h
  | k + 1 => by
    have ih0 := tree_Apply.mono_l k
    · intro y0 y1 y2 y3 y4
      unfold tree_Apply.j0
      repeat' first
      | (with_reducible exact ih0 _ _ _ _ _)
      | (with_reducible exact LeO.refl _)
      | (with_reducible exact LeO.none _)
      | (with_reducible refine LeO.ite ?_ ?_)
      | (with_reducible refine LeO.bind ?_ (fun _ => ?_))
      | exact ih0 _ _ _ _ _
      | exact LeO.none _
      | refine LeO.ite ?_ ?_
      | refine LeO.bind ?_ (fun _ => ?_)
theorem tree_Apply.mono : ∀ a0 a1 a2 k, LeO (tree_Apply.f k a0 a1 a2) (tree_Apply.f (k + 1) a0 a1 a2) := by
  intro a0 a1 a2 k
  have ih0 := tree_Apply.mono_l k
  unfold tree_Apply.f
  repeat' first
      | (with_reducible exact ih0 _ _ _ _ _)
      | (with_reducible exact LeO.refl _)
      | (with_reducible exact LeO.none _)
      | (with_reducible refine LeO.ite ?_ ?_)
      | (with_reducible refine LeO.bind ?_ (fun _ => ?_))
      | exact ih0 _ _ _ _ _
      | exact LeO.none _
      | refine LeO.ite ?_ ?_
      | refine LeO.bind ?_ (fun _ => ?_)
set_option maxHeartbeats 8000000 in
set_option maxRecDepth 100000 in
theorem tree_Apply.calls (k : Nat) (a0 : Int) (a1 : Int) (a2 : Int) (r : Int) (w : World) (h : tree_Apply.f k a0 a1 a2 = some r) :
    Calls Try.prog 28 #[.int .i64 a0, .int .i64 a1, .int .i64 a2] w fun e w' => e = .returned (.int .i64 r) ∧ Below w.heap.size w w' := by
  have HB := Aside0.mk (Below.refl w.heap.size w)
  have H : (if a0 = 5 then (some (wrap64 (-a1))) else (if a0 = 6 then ((tree_truth.f (a1 == 0)).bind fun t151 => (some t151)) else (if a0 = 7 then (some (wrap64 (a1 * a2))) else (if a0 = 8 then (tree_Apply.j0 k a0 a1 a2 a0 (a0 == 8)) else (tree_Apply.j0 k a0 a1 a2 a0 (a0 == 9)))))) = some r := h
  clear h
  by_cases c4 : a0 = 5
  · rw [if_pos c4] at H
    have c4b0 : (a0 == 5) = true := beq_iff_eq.mpr c4
    have c4b1 : (a0 != 5) = false := bne_eq_false_iff_eq.mpr c4
    clear c4
    obtain rfl := Option.some.inj H
    go_enter Try.func28, Try.ntmps28
    go_wp2
    go_ret
    exact ⟨by first | rfl | (simp [errW_none, errW_some] <;> rfl) | (simp [*, errW_none, errW_some] <;> rfl), by repeat (first | (with_reducible first | exact HB.out | apply below_alloc | apply pw_below_drewN | apply below_drew1) | exact HB.out)⟩
  · rw [if_neg c4] at H
    have c4b0 : (a0 == 5) = false := beq_eq_false_iff_ne.mpr c4
    have c4b1 : (a0 != 5) = true := bne_iff_ne.mpr c4
    by_cases c5 : a0 = 6
    · rw [if_pos c5] at H
      have c5b0 : (a0 == 6) = true := beq_iff_eq.mpr c5
      have c5b1 : (a0 != 6) = false := bne_eq_false_iff_eq.mpr c5
      clear c5
      replace H := Option.bind_eq_some_iff.mp H
      obtain ⟨t151, A60, H⟩ := H
      replace H : (some t151) = some r := H
      have A6 := Aside0.mk A60
      clear A60
      obtain rfl := Option.some.inj H
      go_enter Try.func28, Try.ntmps28
      go_wp2_with (first | ((with_reducible refine gate_callee (f := 41) rfl ?_); refine goesL_ (some 16) rfl rfl Try.func41 (by kernel_rfl) rfl #[.bool (a1 == 0)] rfl (by (try simp only [List.map_toArray, List.map_cons, List.map_nil]); first | done | rfl | (simp only [List.length_drop, List.length_take]; rfl)) ?_; (with_reducible refine (tree_truth.calls (a1 == 0) t151 _ A6.out).mono ?_); rintro e w' ⟨rfl, ⟨nd, rfl⟩⟩; refine ⟨_, rfl, ?_⟩))
      go_ret
      exact ⟨by first | rfl | (simp [errW_none, errW_some] <;> rfl) | (simp [*, errW_none, errW_some] <;> rfl), by repeat (first | (with_reducible first | exact HB.out | apply below_alloc | apply pw_below_drewN | apply below_drew1) | exact HB.out)⟩
    · rw [if_neg c5] at H
      have c5b0 : (a0 == 6) = false := beq_eq_false_iff_ne.mpr c5
      have c5b1 : (a0 != 6) = true := bne_iff_ne.mpr c5
      by_cases c7 : a0 = 7
      · rw [if_pos c7] at H
        have c7b0 : (a0 == 7) = true := beq_iff_eq.mpr c7
        have c7b1 : (a0 != 7) = false := bne_eq_false_iff_eq.mpr c7
        clear c7
        obtain rfl := Option.some.inj H
        go_enter Try.func28, Try.ntmps28
        go_wp2
        go_ret
        exact ⟨by first | rfl | (simp [errW_none, errW_some] <;> rfl) | (simp [*, errW_none, errW_some] <;> rfl), by repeat (first | (with_reducible first | exact HB.out | apply below_alloc | apply pw_below_drewN | apply below_drew1) | exact HB.out)⟩
      · rw [if_neg c7] at H
        have c7b0 : (a0 == 7) = false := beq_eq_false_iff_ne.mpr c7
        have c7b1 : (a0 != 7) = true := bne_iff_ne.mpr c7
        have HC8 := Aside0.mk H
        clear H
        go_enter Try.func28, Try.ntmps28
        go_upto_if 22 with (fail)
        go_cut [22] (fun v22 wc => ∃ (kq : Nat) (x22_7 : Bool), v22 = .bool x22_7 ∧ Aside0 (tree_Apply.j0 kq a0 a1 a2 a0 x22_7 = some r) ∧ Aside0 (kq ≤ k) ∧ Aside0 (Below w.heap.size w wc))
        case first =>
          have H := HC8.out
          clear HC8
          by_cases c9 : a0 = 8
          · rw [if_pos c9] at H
            have c9b0 : (a0 == 8) = true := beq_iff_eq.mpr c9
            have c9b1 : (a0 != 8) = false := bne_eq_false_iff_eq.mpr c9
            clear c9
            (first | rw [c9b0] | (simp only [i64_w, i32_w]; rw [c9b0]) | skip)
            have H' := Aside0.mk H
            clear H
            go_wp2
            go_meet
            case rel => exact ⟨_, ((a0 == 8)), (by first | rfl | (simp; done) | (simp [*]; done)), H', ⟨by first | omega | exact Nat.le_refl _⟩, ⟨by repeat (first | (with_reducible first | exact HB.out | apply below_alloc | apply pw_below_drewN | apply below_drew1) | exact HB.out)⟩⟩
          · rw [if_neg c9] at H
            have c9b0 : (a0 == 8) = false := beq_eq_false_iff_ne.mpr c9
            have c9b1 : (a0 != 8) = true := bne_iff_ne.mpr c9
            (first | rw [c9b0] | (simp only [i64_w, i32_w]; rw [c9b0]) | skip)
            have H' := Aside0.mk H
            clear H
            go_wp2
            go_meet
            case rel => exact ⟨_, ((a0 == 9)), (by first | rfl | (simp; done) | (simp [*]; done)), H', ⟨by first | omega | exact Nat.le_refl _⟩, ⟨by repeat (first | (with_reducible first | exact HB.out | apply below_alloc | apply pw_below_drewN | apply below_drew1) | exact HB.out)⟩⟩
        case rest =>
          clear HC8
          try clear c2
          try clear p2
          try clear c4
          try clear c4b0
          try clear c4b1
          try clear c5
          try clear c5b0
          try clear c5b1
          try clear p6
          try clear c7
          try clear c7b0
          try clear c7b1
          try clear c9
          try clear c9b0
          try clear c9b1
          obtain ⟨kq, x22_7, rfl, HA, HJ7, HB⟩ := hcut
          cases kq with
          | zero => exact absurd HA.out (by simp [tree_Apply.j0])
          | succ kj7 =>
            have H := HA.out
            clear HA
            simp only [tree_Apply.j0] at H
            by_cases c10 : x22_7 = true
            · subst c10
              have H1 : (if a2 = 0 then (some 0) else (if a0 = 8 then (some (wrap64 (Int.tdiv a1 a2))) else (some (Int.tmod a1 a2)))) = some r := by rw [if_pos rfl] at H; exact H
              clear H
              have H := H1
              clear H1
              by_cases c11 : a2 = 0
              · rw [if_pos c11] at H
                have c11b0 : (a2 == 0) = true := beq_iff_eq.mpr c11
                have c11b1 : (a2 != 0) = false := bne_eq_false_iff_eq.mpr c11
                clear c11
                obtain rfl := Option.some.inj H
                go_wp2
                go_ret
                exact ⟨by first | rfl | (simp [errW_none, errW_some] <;> rfl) | (simp [*, errW_none, errW_some] <;> rfl), by repeat (first | (with_reducible first | exact HB.out | apply below_alloc | apply pw_below_drewN | apply below_drew1) | exact HB.out)⟩
              · rw [if_neg c11] at H
                have c11b0 : (a2 == 0) = false := beq_eq_false_iff_ne.mpr c11
                have c11b1 : (a2 != 0) = true := bne_iff_ne.mpr c11
                by_cases c12 : a0 = 8
                · rw [if_pos c12] at H
                  have c12b0 : (a0 == 8) = true := beq_iff_eq.mpr c12
                  have c12b1 : (a0 != 8) = false := bne_eq_false_iff_eq.mpr c12
                  clear c12
                  obtain rfl := Option.some.inj H
                  go_wp2
                  go_ret
                  exact ⟨by first | rfl | (simp [errW_none, errW_some] <;> rfl) | (simp [*, errW_none, errW_some] <;> rfl), by repeat (first | (with_reducible first | exact HB.out | apply below_alloc | apply pw_below_drewN | apply below_drew1) | exact HB.out)⟩
                · rw [if_neg c12] at H
                  have c12b0 : (a0 == 8) = false := beq_eq_false_iff_ne.mpr c12
                  have c12b1 : (a0 != 8) = true := bne_iff_ne.mpr c12
                  obtain rfl := Option.some.inj H
                  go_wp2
                  go_ret
                  exact ⟨by first | rfl | (simp [errW_none, errW_some] <;> rfl) | (simp [*, errW_none, errW_some] <;> rfl), by repeat (first | (with_reducible first | exact HB.out | apply below_alloc | apply pw_below_drewN | apply below_drew1) | exact HB.out)⟩
            · replace c10 := Bool.eq_false_iff.mpr c10
              subst c10
              have H1 : (if a0 = 10 then (some (wrap64 (a1 + a2))) else (if a0 = 11 then (some (wrap64 (a1 - a2))) else (if a0 = 12 then ((tree_truth.f (a1 == a2)).bind fun t152 => (some t152)) else (if a0 = 13 then ((tree_truth.f (a1 != a2)).bind fun t153 => (some t153)) else (if a0 = 14 then ((tree_truth.f (decide (a1 < a2))).bind fun t154 => (some t154)) else (if a0 = 15 then ((tree_truth.f (decide (a1 ≤ a2))).bind fun t155 => (some t155)) else (if a0 = 16 then ((tree_truth.f (decide (a1 > a2))).bind fun t156 => (some t156)) else (if a0 = 17 then ((tree_truth.f (decide (a1 ≥ a2))).bind fun t157 => (some t157)) else (if a0 = 18 then (if a1 = 0 then ((tree_truth.f false).bind fun t158 => (some t158)) else ((tree_truth.f (a2 != 0)).bind fun t159 => (some t159))) else (if a0 = 19 then (if a1 = 0 then ((tree_truth.f (a2 != 0)).bind fun t160 => (some t160)) else ((tree_truth.f true).bind fun t161 => (some t161))) else (if a0 = 20 then (some (mn a1 a2)) else (if a0 = 21 then (some (mx a1 a2)) else (some 0))))))))))))) = some r := by rw [if_neg (show ¬ (false = true) by decide)] at H; exact H
              clear H
              have H := H1
              clear H1
              by_cases c13 : a0 = 10
              · rw [if_pos c13] at H
                have c13b0 : (a0 == 10) = true := beq_iff_eq.mpr c13
                have c13b1 : (a0 != 10) = false := bne_eq_false_iff_eq.mpr c13
                clear c13
                obtain rfl := Option.some.inj H
                go_wp2
                go_ret
                exact ⟨by first | rfl | (simp [errW_none, errW_some] <;> rfl) | (simp [*, errW_none, errW_some] <;> rfl), by repeat (first | (with_reducible first | exact HB.out | apply below_alloc | apply pw_below_drewN | apply below_drew1) | exact HB.out)⟩
              · rw [if_neg c13] at H
                have c13b0 : (a0 == 10) = false := beq_eq_false_iff_ne.mpr c13
                have c13b1 : (a0 != 10) = true := bne_iff_ne.mpr c13
                by_cases c14 : a0 = 11
                · rw [if_pos c14] at H
                  have c14b0 : (a0 == 11) = true := beq_iff_eq.mpr c14
                  have c14b1 : (a0 != 11) = false := bne_eq_false_iff_eq.mpr c14
                  clear c14
                  obtain rfl := Option.some.inj H
                  go_wp2
                  go_ret
                  exact ⟨by first | rfl | (simp [errW_none, errW_some] <;> rfl) | (simp [*, errW_none, errW_some] <;> rfl), by repeat (first | (with_reducible first | exact HB.out | apply below_alloc | apply pw_below_drewN | apply below_drew1) | exact HB.out)⟩
                · rw [if_neg c14] at H
                  have c14b0 : (a0 == 11) = false := beq_eq_false_iff_ne.mpr c14
                  have c14b1 : (a0 != 11) = true := bne_iff_ne.mpr c14
                  by_cases c15 : a0 = 12
                  · rw [if_pos c15] at H
                    have c15b0 : (a0 == 12) = true := beq_iff_eq.mpr c15
                    have c15b1 : (a0 != 12) = false := bne_eq_false_iff_eq.mpr c15
                    clear c15
                    replace H := Option.bind_eq_some_iff.mp H
                    obtain ⟨t152, A160, H⟩ := H
                    replace H : (some t152) = some r := H
                    have A16 := Aside0.mk A160
                    clear A160
                    obtain rfl := Option.some.inj H
                    go_wp2_with (first | ((with_reducible refine gate_callee (f := 41) rfl ?_); refine goesL_ (some 52) rfl rfl Try.func41 (by kernel_rfl) rfl #[.bool (a1 == a2)] rfl (by (try simp only [List.map_toArray, List.map_cons, List.map_nil]); first | done | rfl | (simp only [List.length_drop, List.length_take]; rfl)) ?_; (with_reducible refine (tree_truth.calls (a1 == a2) t152 _ A16.out).mono ?_); rintro e w' ⟨rfl, ⟨nd, rfl⟩⟩; refine ⟨_, rfl, ?_⟩))
                    go_ret
                    exact ⟨by first | rfl | (simp [errW_none, errW_some] <;> rfl) | (simp [*, errW_none, errW_some] <;> rfl), by repeat (first | (with_reducible first | exact HB.out | apply below_alloc | apply pw_below_drewN | apply below_drew1) | exact HB.out)⟩
                  · rw [if_neg c15] at H
                    have c15b0 : (a0 == 12) = false := beq_eq_false_iff_ne.mpr c15
                    have c15b1 : (a0 != 12) = true := bne_iff_ne.mpr c15
                    by_cases c17 : a0 = 13
                    · rw [if_pos c17] at H
                      have c17b0 : (a0 == 13) = true := beq_iff_eq.mpr c17
                      have c17b1 : (a0 != 13) = false := bne_eq_false_iff_eq.mpr c17
                      clear c17
                      replace H := Option.bind_eq_some_iff.mp H
                      obtain ⟨t153, A180, H⟩ := H
                      replace H : (some t153) = some r := H
                      have A18 := Aside0.mk A180
                      clear A180
                      obtain rfl := Option.some.inj H
                      go_wp2_with (first | ((with_reducible refine gate_callee (f := 41) rfl ?_); refine goesL_ (some 58) rfl rfl Try.func41 (by kernel_rfl) rfl #[.bool (a1 != a2)] rfl (by (try simp only [List.map_toArray, List.map_cons, List.map_nil]); first | done | rfl | (simp only [List.length_drop, List.length_take]; rfl)) ?_; (with_reducible refine (tree_truth.calls (a1 != a2) t153 _ A18.out).mono ?_); rintro e w' ⟨rfl, ⟨nd, rfl⟩⟩; refine ⟨_, rfl, ?_⟩))
                      go_ret
                      exact ⟨by first | rfl | (simp [errW_none, errW_some] <;> rfl) | (simp [*, errW_none, errW_some] <;> rfl), by repeat (first | (with_reducible first | exact HB.out | apply below_alloc | apply pw_below_drewN | apply below_drew1) | exact HB.out)⟩
                    · rw [if_neg c17] at H
                      have c17b0 : (a0 == 13) = false := beq_eq_false_iff_ne.mpr c17
                      have c17b1 : (a0 != 13) = true := bne_iff_ne.mpr c17
                      by_cases c19 : a0 = 14
                      · rw [if_pos c19] at H
                        have c19b0 : (a0 == 14) = true := beq_iff_eq.mpr c19
                        have c19b1 : (a0 != 14) = false := bne_eq_false_iff_eq.mpr c19
                        clear c19
                        replace H := Option.bind_eq_some_iff.mp H
                        obtain ⟨t154, A200, H⟩ := H
                        replace H : (some t154) = some r := H
                        have A20 := Aside0.mk A200
                        clear A200
                        obtain rfl := Option.some.inj H
                        go_wp2_with (first | ((with_reducible refine gate_callee (f := 41) rfl ?_); refine goesL_ (some 64) rfl rfl Try.func41 (by kernel_rfl) rfl #[.bool (decide (a1 < a2))] rfl (by (try simp only [List.map_toArray, List.map_cons, List.map_nil]); first | done | rfl | (simp only [List.length_drop, List.length_take]; rfl)) ?_; (with_reducible refine (tree_truth.calls (decide (a1 < a2)) t154 _ A20.out).mono ?_); rintro e w' ⟨rfl, ⟨nd, rfl⟩⟩; refine ⟨_, rfl, ?_⟩))
                        go_ret
                        exact ⟨by first | rfl | (simp [errW_none, errW_some] <;> rfl) | (simp [*, errW_none, errW_some] <;> rfl), by repeat (first | (with_reducible first | exact HB.out | apply below_alloc | apply pw_below_drewN | apply below_drew1) | exact HB.out)⟩
                      · rw [if_neg c19] at H
                        have c19b0 : (a0 == 14) = false := beq_eq_false_iff_ne.mpr c19
                        have c19b1 : (a0 != 14) = true := bne_iff_ne.mpr c19
                        by_cases c21 : a0 = 15
                        · rw [if_pos c21] at H
                          have c21b0 : (a0 == 15) = true := beq_iff_eq.mpr c21
                          have c21b1 : (a0 != 15) = false := bne_eq_false_iff_eq.mpr c21
                          clear c21
                          replace H := Option.bind_eq_some_iff.mp H
                          obtain ⟨t155, A220, H⟩ := H
                          replace H : (some t155) = some r := H
                          have A22 := Aside0.mk A220
                          clear A220
                          obtain rfl := Option.some.inj H
                          go_wp2_with (first | ((with_reducible refine gate_callee (f := 41) rfl ?_); refine goesL_ (some 70) rfl rfl Try.func41 (by kernel_rfl) rfl #[.bool (decide (a1 ≤ a2))] rfl (by (try simp only [List.map_toArray, List.map_cons, List.map_nil]); first | done | rfl | (simp only [List.length_drop, List.length_take]; rfl)) ?_; (with_reducible refine (tree_truth.calls (decide (a1 ≤ a2)) t155 _ A22.out).mono ?_); rintro e w' ⟨rfl, ⟨nd, rfl⟩⟩; refine ⟨_, rfl, ?_⟩))
                          go_ret
                          exact ⟨by first | rfl | (simp [errW_none, errW_some] <;> rfl) | (simp [*, errW_none, errW_some] <;> rfl), by repeat (first | (with_reducible first | exact HB.out | apply below_alloc | apply pw_below_drewN | apply below_drew1) | exact HB.out)⟩
                        · rw [if_neg c21] at H
                          have c21b0 : (a0 == 15) = false := beq_eq_false_iff_ne.mpr c21
                          have c21b1 : (a0 != 15) = true := bne_iff_ne.mpr c21
                          by_cases c23 : a0 = 16
                          · rw [if_pos c23] at H
                            have c23b0 : (a0 == 16) = true := beq_iff_eq.mpr c23
                            have c23b1 : (a0 != 16) = false := bne_eq_false_iff_eq.mpr c23
                            clear c23
                            replace H := Option.bind_eq_some_iff.mp H
                            obtain ⟨t156, A240, H⟩ := H
                            replace H : (some t156) = some r := H
                            have A24 := Aside0.mk A240
                            clear A240
                            obtain rfl := Option.some.inj H
                            go_wp2_with (first | ((with_reducible refine gate_callee (f := 41) rfl ?_); refine goesL_ (some 76) rfl rfl Try.func41 (by kernel_rfl) rfl #[.bool (decide (a1 > a2))] rfl (by (try simp only [List.map_toArray, List.map_cons, List.map_nil]); first | done | rfl | (simp only [List.length_drop, List.length_take]; rfl)) ?_; (with_reducible refine (tree_truth.calls (decide (a1 > a2)) t156 _ A24.out).mono ?_); rintro e w' ⟨rfl, ⟨nd, rfl⟩⟩; refine ⟨_, rfl, ?_⟩))
                            go_ret
                            exact ⟨by first | rfl | (simp [errW_none, errW_some] <;> rfl) | (simp [*, errW_none, errW_some] <;> rfl), by repeat (first | (with_reducible first | exact HB.out | apply below_alloc | apply pw_below_drewN | apply below_drew1) | exact HB.out)⟩
                          · rw [if_neg c23] at H
                            have c23b0 : (a0 == 16) = false := beq_eq_false_iff_ne.mpr c23
                            have c23b1 : (a0 != 16) = true := bne_iff_ne.mpr c23
                            by_cases c25 : a0 = 17
                            · rw [if_pos c25] at H
                              have c25b0 : (a0 == 17) = true := beq_iff_eq.mpr c25
                              have c25b1 : (a0 != 17) = false := bne_eq_false_iff_eq.mpr c25
                              clear c25
                              replace H := Option.bind_eq_some_iff.mp H
                              obtain ⟨t157, A260, H⟩ := H
                              replace H : (some t157) = some r := H
                              have A26 := Aside0.mk A260
                              clear A260
                              obtain rfl := Option.some.inj H
                              go_wp2_with (first | ((with_reducible refine gate_callee (f := 41) rfl ?_); refine goesL_ (some 82) rfl rfl Try.func41 (by kernel_rfl) rfl #[.bool (decide (a1 ≥ a2))] rfl (by (try simp only [List.map_toArray, List.map_cons, List.map_nil]); first | done | rfl | (simp only [List.length_drop, List.length_take]; rfl)) ?_; (with_reducible refine (tree_truth.calls (decide (a1 ≥ a2)) t157 _ A26.out).mono ?_); rintro e w' ⟨rfl, ⟨nd, rfl⟩⟩; refine ⟨_, rfl, ?_⟩))
                              go_ret
                              exact ⟨by first | rfl | (simp [errW_none, errW_some] <;> rfl) | (simp [*, errW_none, errW_some] <;> rfl), by repeat (first | (with_reducible first | exact HB.out | apply below_alloc | apply pw_below_drewN | apply below_drew1) | exact HB.out)⟩
                            · rw [if_neg c25] at H
                              have c25b0 : (a0 == 17) = false := beq_eq_false_iff_ne.mpr c25
                              have c25b1 : (a0 != 17) = true := bne_iff_ne.mpr c25
                              by_cases c27 : a0 = 18
                              · rw [if_pos c27] at H
                                have c27b0 : (a0 == 18) = true := beq_iff_eq.mpr c27
                                have c27b1 : (a0 != 18) = false := bne_eq_false_iff_eq.mpr c27
                                clear c27
                                by_cases c28 : a1 = 0
                                · rw [if_pos c28] at H
                                  have c28b0 : (a1 == 0) = true := beq_iff_eq.mpr c28
                                  have c28b1 : (a1 != 0) = false := bne_eq_false_iff_eq.mpr c28
                                  clear c28
                                  replace H := Option.bind_eq_some_iff.mp H
                                  obtain ⟨t158, A290, H⟩ := H
                                  replace H : (some t158) = some r := H
                                  have A29 := Aside0.mk A290
                                  clear A290
                                  obtain rfl := Option.some.inj H
                                  go_wp2_with (first | ((with_reducible refine gate_callee (f := 41) rfl ?_); refine goesL_ (some 91) rfl rfl Try.func41 (by kernel_rfl) rfl #[.bool false] rfl (by (try simp only [List.map_toArray, List.map_cons, List.map_nil]); first | done | rfl | (simp only [List.length_drop, List.length_take]; rfl)) ?_; (with_reducible refine (tree_truth.calls false t158 _ A29.out).mono ?_); rintro e w' ⟨rfl, ⟨nd, rfl⟩⟩; refine ⟨_, rfl, ?_⟩))
                                  go_ret
                                  exact ⟨by first | rfl | (simp [errW_none, errW_some] <;> rfl) | (simp [*, errW_none, errW_some] <;> rfl), by repeat (first | (with_reducible first | exact HB.out | apply below_alloc | apply pw_below_drewN | apply below_drew1) | exact HB.out)⟩
                                · rw [if_neg c28] at H
                                  have c28b0 : (a1 == 0) = false := beq_eq_false_iff_ne.mpr c28
                                  have c28b1 : (a1 != 0) = true := bne_iff_ne.mpr c28
                                  replace H := Option.bind_eq_some_iff.mp H
                                  obtain ⟨t159, A300, H⟩ := H
                                  replace H : (some t159) = some r := H
                                  have A30 := Aside0.mk A300
                                  clear A300
                                  obtain rfl := Option.some.inj H
                                  go_wp2_with (first | ((with_reducible refine gate_callee (f := 41) rfl ?_); refine goesL_ (some 91) rfl rfl Try.func41 (by kernel_rfl) rfl #[.bool (a2 != 0)] rfl (by (try simp only [List.map_toArray, List.map_cons, List.map_nil]); first | done | rfl | (simp only [List.length_drop, List.length_take]; rfl)) ?_; (with_reducible refine (tree_truth.calls (a2 != 0) t159 _ A30.out).mono ?_); rintro e w' ⟨rfl, ⟨nd, rfl⟩⟩; refine ⟨_, rfl, ?_⟩))
                                  go_ret
                                  exact ⟨by first | rfl | (simp [errW_none, errW_some] <;> rfl) | (simp [*, errW_none, errW_some] <;> rfl), by repeat (first | (with_reducible first | exact HB.out | apply below_alloc | apply pw_below_drewN | apply below_drew1) | exact HB.out)⟩
                              · rw [if_neg c27] at H
                                have c27b0 : (a0 == 18) = false := beq_eq_false_iff_ne.mpr c27
                                have c27b1 : (a0 != 18) = true := bne_iff_ne.mpr c27
                                by_cases c31 : a0 = 19
                                · rw [if_pos c31] at H
                                  have c31b0 : (a0 == 19) = true := beq_iff_eq.mpr c31
                                  have c31b1 : (a0 != 19) = false := bne_eq_false_iff_eq.mpr c31
                                  clear c31
                                  by_cases c32 : a1 = 0
                                  · rw [if_pos c32] at H
                                    have c32b0 : (a1 == 0) = true := beq_iff_eq.mpr c32
                                    have c32b1 : (a1 != 0) = false := bne_eq_false_iff_eq.mpr c32
                                    clear c32
                                    replace H := Option.bind_eq_some_iff.mp H
                                    obtain ⟨t160, A330, H⟩ := H
                                    replace H : (some t160) = some r := H
                                    have A33 := Aside0.mk A330
                                    clear A330
                                    obtain rfl := Option.some.inj H
                                    go_wp2_with (first | ((with_reducible refine gate_callee (f := 41) rfl ?_); refine goesL_ (some 100) rfl rfl Try.func41 (by kernel_rfl) rfl #[.bool (a2 != 0)] rfl (by (try simp only [List.map_toArray, List.map_cons, List.map_nil]); first | done | rfl | (simp only [List.length_drop, List.length_take]; rfl)) ?_; (with_reducible refine (tree_truth.calls (a2 != 0) t160 _ A33.out).mono ?_); rintro e w' ⟨rfl, ⟨nd, rfl⟩⟩; refine ⟨_, rfl, ?_⟩))
                                    go_ret
                                    exact ⟨by first | rfl | (simp [errW_none, errW_some] <;> rfl) | (simp [*, errW_none, errW_some] <;> rfl), by repeat (first | (with_reducible first | exact HB.out | apply below_alloc | apply pw_below_drewN | apply below_drew1) | exact HB.out)⟩
                                  · rw [if_neg c32] at H
                                    have c32b0 : (a1 == 0) = false := beq_eq_false_iff_ne.mpr c32
                                    have c32b1 : (a1 != 0) = true := bne_iff_ne.mpr c32
                                    replace H := Option.bind_eq_some_iff.mp H
                                    obtain ⟨t161, A340, H⟩ := H
                                    replace H : (some t161) = some r := H
                                    have A34 := Aside0.mk A340
                                    clear A340
                                    obtain rfl := Option.some.inj H
                                    go_wp2_with (first | ((with_reducible refine gate_callee (f := 41) rfl ?_); refine goesL_ (some 100) rfl rfl Try.func41 (by kernel_rfl) rfl #[.bool true] rfl (by (try simp only [List.map_toArray, List.map_cons, List.map_nil]); first | done | rfl | (simp only [List.length_drop, List.length_take]; rfl)) ?_; (with_reducible refine (tree_truth.calls true t161 _ A34.out).mono ?_); rintro e w' ⟨rfl, ⟨nd, rfl⟩⟩; refine ⟨_, rfl, ?_⟩))
                                    go_ret
                                    exact ⟨by first | rfl | (simp [errW_none, errW_some] <;> rfl) | (simp [*, errW_none, errW_some] <;> rfl), by repeat (first | (with_reducible first | exact HB.out | apply below_alloc | apply pw_below_drewN | apply below_drew1) | exact HB.out)⟩
                                · rw [if_neg c31] at H
                                  have c31b0 : (a0 == 19) = false := beq_eq_false_iff_ne.mpr c31
                                  have c31b1 : (a0 != 19) = true := bne_iff_ne.mpr c31
                                  by_cases c35 : a0 = 20
                                  · rw [if_pos c35] at H
                                    have c35b0 : (a0 == 20) = true := beq_iff_eq.mpr c35
                                    have c35b1 : (a0 != 20) = false := bne_eq_false_iff_eq.mpr c35
                                    clear c35
                                    obtain ⟨ji36, hji36⟩ : ∃ j_ : Int, (mn a1 a2) = j_ := ⟨_, rfl⟩
                                    replace H : (some ji36) = some r := by first | (rw [hji36] at H; exact H) | (simp only [hji36] at H ⊢; exact H)
                                    have hji36_ : (if a2 < a1 then a2 else a1) = ji36 := hji36
                                    obtain rfl := Option.some.inj H
                                    go_wp2
                                    go_ret
                                    exact ⟨by first | rfl | (simp [errW_none, errW_some] <;> rfl) | (simp only [← hji36]; first | rfl | (simp [errW_none, errW_some] <;> rfl)) | (simp [*, errW_none, errW_some] <;> rfl), by repeat (first | (with_reducible first | exact HB.out | apply below_alloc | apply pw_below_drewN | apply below_drew1) | exact HB.out)⟩
                                  · rw [if_neg c35] at H
                                    have c35b0 : (a0 == 20) = false := beq_eq_false_iff_ne.mpr c35
                                    have c35b1 : (a0 != 20) = true := bne_iff_ne.mpr c35
                                    by_cases c37 : a0 = 21
                                    · rw [if_pos c37] at H
                                      have c37b0 : (a0 == 21) = true := beq_iff_eq.mpr c37
                                      have c37b1 : (a0 != 21) = false := bne_eq_false_iff_eq.mpr c37
                                      clear c37
                                      obtain ⟨ji38, hji38⟩ : ∃ j_ : Int, (mx a1 a2) = j_ := ⟨_, rfl⟩
                                      replace H : (some ji38) = some r := by first | (rw [hji38] at H; exact H) | (simp only [hji38] at H ⊢; exact H)
                                      have hji38_ : (if a1 < a2 then a2 else a1) = ji38 := hji38
                                      obtain rfl := Option.some.inj H
                                      go_wp2
                                      go_ret
                                      exact ⟨by first | rfl | (simp [errW_none, errW_some] <;> rfl) | (simp only [← hji38]; first | rfl | (simp [errW_none, errW_some] <;> rfl)) | (simp [*, errW_none, errW_some] <;> rfl), by repeat (first | (with_reducible first | exact HB.out | apply below_alloc | apply pw_below_drewN | apply below_drew1) | exact HB.out)⟩
                                    · rw [if_neg c37] at H
                                      have c37b0 : (a0 == 21) = false := beq_eq_false_iff_ne.mpr c37
                                      have c37b1 : (a0 != 21) = true := bne_iff_ne.mpr c37
                                      obtain rfl := Option.some.inj H
                                      go_wp2
                                      go_ret
                                      exact ⟨by first | rfl | (simp [errW_none, errW_some] <;> rfl) | (simp [*, errW_none, errW_some] <;> rfl), by repeat (first | (with_reducible first | exact HB.out | apply below_alloc | apply pw_below_drewN | apply below_drew1) | exact HB.out)⟩

end Go.Proofs.Ytekbcfgcojecmaa.P
