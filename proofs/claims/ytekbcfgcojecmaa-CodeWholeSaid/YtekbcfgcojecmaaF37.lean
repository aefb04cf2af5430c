-- Written by this session's program drv.py, by means of the kit's printer; not a text of print.sh.
import Derived.Test.YtekbcfgcojecmaaF0
import Derived.Test.YtekbcfgcojecmaaF20
import Derived.Test.YtekbcfgcojecmaaF51
namespace Go.Proofs.Ytekbcfgcojecmaa.P
open Go.RowKit Go.Proofs.YtekbcfgcojecmaaW.PrintWords Go.Proofs.YtekbcfgcojecmaaW.PrintLast Go.Proofs.YtekbcfgcojecmaaW.PrintMore
attribute [local go_sem] max2_int min2_int max_two min_two max_three min_three max_four min_four   -- for this text's walks alone
set_option linter.unusedVariables false
set_option linter.unusedSimpArgs false

/-! ### headgateref21_reckon: function 37 -/
mutual
def headgateref21_reckon.l0 : Nat → Bool → Int → Int → Int → List (S35) → Int → Int → List (S35) → Option (Int × Int × (List (S35)))
  | 0, _, _, _, _, _, _, _, _ => none
  | k + 1, x4, x5, x385000, x385001, x385002, x387000, x387001, x387002 => if x5 < (x385002.length : Int) then (if 0 ≤ x5 then ((headgateref21_reckon.f k ((rd_T35 x385002 x5).f0) ((rd_T35 x385002 x5).f1) ((rd_T35 x385002 x5).f2)).bind fun bt388 => (if x387002.length < 3518437208883 then ((some (x387002 ++ [(⟨bt388.1, bt388.2.1, bt388.2.2⟩ : S35)] : List (S35))).bind fun y394 => (if x4 = true then ((headgateref21_Constant.f bt388.1 bt388.2.1 bt388.2.2).bind fun t397 => (headgateref21_reckon.l0 k t397 (wrap64 (x5 + 1)) x385000 x385001 x385002 x387000 x387001 y394)) else (headgateref21_reckon.l0 k false (wrap64 (x5 + 1)) x385000 x385001 x385002 x387000 x387001 y394))) else (none))) else (none)) else (if x387000 = 22 then (if 0 < (x387002.length : Int) then ((headgateref21_Constant.f ((rd_T35 x387002 0).f0) ((rd_T35 x387002 0).f1) ((rd_T35 x387002 0).f2)).bind fun t399 => (headgateref21_reckon.j1 k x4 t399 x387000 x387001 x387002)) else (none)) else (headgateref21_reckon.j1 k x4 false x387000 x387001 x387002))
def headgateref21_reckon.j1 : Nat → Bool → Bool → Int → Int → List (S35) → Option (Int × Int × (List (S35)))
  | 0, _, _, _, _, _ => none
  | k + 1, x4, x51, x387000, x387001, x387002 => if x51 = true then (if 0 < (x387002.length : Int) then ((headgateref21_Value.f k ((rd_T35 x387002 0).f0) ((rd_T35 x387002 0).f1) ((rd_T35 x387002 0).f2) 0 0 0).bind fun t401 => (if t401 = 0 then (if 2 < (x387002.length : Int) then (some ((rd_T35 x387002 2).f0, (rd_T35 x387002 2).f1, (rd_T35 x387002 2).f2)) else (none)) else (if 1 < (x387002.length : Int) then (some ((rd_T35 x387002 1).f0, (rd_T35 x387002 1).f1, (rd_T35 x387002 1).f2)) else (none)))) else (none)) else (if x4 = true then ((headgateref21_Constant.f x387000 x387001 x387002).bind fun t404 => (headgateref21_reckon.j2 k t404 x387000 x387001 x387002)) else (headgateref21_reckon.j2 k true x387000 x387001 x387002))
def headgateref21_reckon.j2 : Nat → Bool → Int → Int → List (S35) → Option (Int × Int × (List (S35)))
  | 0, _, _, _, _ => none
  | k + 1, x71, x387000, x387001, x387002 => if x71 = true then (some (x387000, x387001, x387002)) else ((headgateref21_Value.f k x387000 x387001 x387002 0 0 0).bind fun t405 => (if t405 ≥ 0 then (some (1, t405, ([] : List (S35)))) else (if (wrap64 (-t405)) < 0 then (some (x387000, x387001, x387002)) else (some (5, 0, (([(⟨1, wrap64 (-t405), ([] : List (S35))⟩ : S35)] : List (S35))))))))
def headgateref21_reckon.f : Nat → Int → Int → List (S35) → Option (Int × Int × (List (S35)))
  | 0, _, _, _ => none
  | k + 1, a0_0, a0_1, l0_2 => if (l0_2.length : Int) = 0 then (some (a0_0, a0_1, l0_2)) else (headgateref21_reckon.l0 k true 0 a0_0 a0_1 l0_2 a0_0 a0_1 ([] : List (S35)))
end
theorem headgateref21_reckon.mono_l : ∀ k, (∀ y0 y1 y2, LeO (headgateref21_reckon.f k y0 y1 y2) (headgateref21_reckon.f (k + 1) y0 y1 y2)) ∧ (∀ y0 y1 y2 y3 y4 y5 y6 y7, LeO (headgateref21_reckon.l0 k y0 y1 y2 y3 y4 y5 y6 y7) (headgateref21_reckon.l0 (k + 1) y0 y1 y2 y3 y4 y5 y6 y7)) ∧ (∀ y0 y1 y2 y3 y4, LeO (headgateref21_reckon.j1 k y0 y1 y2 y3 y4) (headgateref21_reckon.j1 (k + 1) y0 y1 y2 y3 y4)) ∧ (∀ y0 y1 y2 y3, LeO (headgateref21_reckon.j2 k y0 y1 y2 y3) (headgateref21_reckon.j2 (k + 1) y0 y1 y2 y3))
  | 0 => ⟨fun _ _ _ r h => by simp [headgateref21_reckon.f] at h, fun _ _ _ _ _ _ _ _ r h => by simp [headgateref21_reckon.l0] at h, fun _ _ _ _ _ r h => by simp [headgateref21_reckon.j1] at h, fun _ _ _ _ r h => by simp [headgateref21_reckon.j2] at h⟩
  | k + 1 => by
    obtain ⟨ih0, ih1, ih2, ih3⟩ := headgateref21_reckon.mono_l k
    refine ⟨?_, ?_, ?_, ?_⟩
    · intro y0 y1 y2
      unfold headgateref21_reckon.f
      repeat' first
      | (with_reducible exact ih0 _ _ _)
      | (with_reducible exact ih1 _ _ _ _ _ _ _ _)
      | (with_reducible exact ih2 _ _ _ _ _)
      | (with_reducible exact ih3 _ _ _ _)
      | (with_reducible exact headgateref21_Value.mono _ _ _ _ _ _ _)
      | (with_reducible exact LeO.refl _)
      | (with_reducible exact LeO.none _)
      | (with_reducible refine LeO.ite ?_ ?_)
      | (with_reducible refine LeO.bind ?_ (fun _ => ?_))
      | exact ih0 _ _ _
      | exact ih1 _ _ _ _ _ _ _ _
      | exact ih2 _ _ _ _ _
      | exact ih3 _ _ _ _
      | exact headgateref21_Value.mono _ _ _ _ _ _ _
      | exact LeO.none _
      | refine LeO.ite ?_ ?_
      | refine LeO.bind ?_ (fun _ => ?_)
    · intro y0 y1 y2 y3 y4 y5 y6 y7
      unfold headgateref21_reckon.l0
      repeat' first
      | (with_reducible exact ih0 _ _ _)
      | (with_reducible exact ih1 _ _ _ _ _ _ _ _)
      | (with_reducible exact ih2 _ _ _ _ _)
      | (with_reducible exact ih3 _ _ _ _)
      | (with_reducible exact headgateref21_Value.mono _ _ _ _ _ _ _)
      | (with_reducible exact LeO.refl _)
      | (with_reducible exact LeO.none _)
      | (with_reducible refine LeO.ite ?_ ?_)
      | (with_reducible refine LeO.bind ?_ (fun _ => ?_))
      | exact ih0 _ _ _
      | exact ih1 _ _ _ _ _ _ _ _
      | exact ih2 _ _ _ _ _
      | exact ih3 _ _ _ _
      | exact headgateref21_Value.mono _ _ _ _ _ _ _
      | exact LeO.none _
      | refine LeO.ite ?_ ?_
      | refine LeO.bind ?_ (fun _ => ?_)
    · intro y0 y1 y2 y3 y4
      unfold headgateref21_reckon.j1
      repeat' first
      | (with_reducible exact ih0 _ _ _)
      | (with_reducible exact ih1 _ _ _ _ _ _ _ _)
      | (with_reducible exact ih2 _ _ _ _ _)
      | (with_reducible exact ih3 _ _ _ _)
      | (with_reducible exact headgateref21_Value.mono _ _ _ _ _ _ _)
      | (with_reducible exact LeO.refl _)
      | (with_reducible exact LeO.none _)
      | (with_reducible refine LeO.ite ?_ ?_)
      | (with_reducible refine LeO.bind ?_ (fun _ => ?_))
      | exact ih0 _ _ _
      | exact ih1 _ _ _ _ _ _ _ _
      | exact ih2 _ _ _ _ _
      | exact ih3 _ _ _ _
      | exact headgateref21_Value.mono _ _ _ _ _ _ _
      | exact LeO.none _
      | refine LeO.ite ?_ ?_
      | refine LeO.bind ?_ (fun _ => ?_)
    · intro y0 y1 y2 y3
      unfold headgateref21_reckon.j2
      repeat' first
      | (with_reducible exact ih0 _ _ _)
      | (with_reducible exact ih1 _ _ _ _ _ _ _ _)
      | (with_reducible exact ih2 _ _ _ _ _)
      | (with_reducible exact ih3 _ _ _ _)
      | (with_reducible exact headgateref21_Value.mono _ _ _ _ _ _ _)
      | (with_reducible exact LeO.refl _)
      | (with_reducible exact LeO.none _)
      | (with_reducible refine LeO.ite ?_ ?_)
      | (with_reducible refine LeO.bind ?_ (fun _ => ?_))
      | exact ih0 _ _ _
      | exact ih1 _ _ _ _ _ _ _ _
      | exact ih2 _ _ _ _ _
      | exact ih3 _ _ _ _
      | exact headgateref21_Value.mono _ _ _ _ _ _ _
      | exact LeO.none _
      | refine LeO.ite ?_ ?_
      | refine LeO.bind ?_ (fun _ => ?_)
theorem headgateref21_reckon.mono : ∀ a0 a1 a2 k, LeO (headgateref21_reckon.f k a0 a1 a2) (headgateref21_reckon.f (k + 1) a0 a1 a2) := by
  intro a0 a1 a2 k
  obtain ⟨ih0, ih1, ih2, ih3⟩ := headgateref21_reckon.mono_l k
  exact ih0 a0 a1 a2
set_option maxHeartbeats 8000000 in
set_option maxRecDepth 100000 in
theorem headgateref21_reckon.calls (k : Nat) : ∀ (a0_0 : Int) (a0_1 : Int) (P0_2_ : Nat → Prop) (A0_2 : Option Addr) (c0_2 : Nat) (l0_2 : List (S35)) (r1 : Int) (r2 : Int) (r3 : List (S35)) (w : World) (hs0_2 : Kd.V k35 35 w w.heap.size (fun k_ => P0_2_ k_) (.slice A0_2 l0_2.length c0_2) l0_2) (h : headgateref21_reckon.f k a0_0 a0_1 l0_2 = some (r1, r2, r3)),
    Calls Try.prog 37 #[.agg #[.int .i64 a0_0, .int .i64 a0_1, .slice A0_2 l0_2.length c0_2]] w fun e w' => ∃ v2_ : Value, e = .returned (.agg #[.int .i64 r1, .int .i64 r2, v2_]) ∧ Kd.V k35 35 w' w.heap.size (fun k_ => (P0_2_ k_ ∨ w.heap.size ≤ k_)) v2_ r3 ∧ Below w.heap.size w w' := by
  induction k using Nat.strongRecOn with
  | _ k ih =>
  intro a0_0 a0_1 P0_2_ A0_2 c0_2 l0_2 r1 r2 r3 w hs0_2 h
  cases k with
  | zero => exact absurd h (by simp [headgateref21_reckon.f])
  | succ k =>
  simp only [headgateref21_reckon.f] at h
  have hu35 := Try.underlying35
  have HO0_2 := Aside0.mk (show Kd.V k35 35 w w.heap.size (fun k_ => (P0_2_ k_ ∨ w.heap.size ≤ k_)) (.slice A0_2 l0_2.length c0_2) l0_2 from Kd.V_mono hs0_2 (fun k_ hk => .inl hk))
  have HB := Aside0.mk (Below.refl w.heap.size w)
  have H : (if (l0_2.length : Int) = 0 then (some (a0_0, a0_1, l0_2)) else (headgateref21_reckon.l0 k true 0 a0_0 a0_1 l0_2 a0_0 a0_1 ([] : List (S35)))) = some (r1, r2, r3) := h
  clear h
  by_cases c2 : (l0_2.length : Int) = 0
  · rw [if_pos c2] at H
    have c2b0 : ((l0_2.length : Int) == 0) = true := beq_iff_eq.mpr c2
    have c2b1 : ((l0_2.length : Int) != 0) = false := bne_eq_false_iff_eq.mpr c2
    clear c2
    simp only [Option.some.injEq, Prod.mk.injEq] at H
    obtain ⟨rfl, rfl, rfl⟩ := H
    go_enter Try.func37, Try.ntmps37
    go_wp2_with (first | ((with_reducible refine gate_dst (N := 1) rfl ?_); refine box_event ?hg (N := 1) ?hd (cs := #[.int .i64 a0_0, .int .i64 a0_1, .slice A0_2 l0_2.length c0_2]) (t := 35) ?hr ?_; (case hd => rfl); (case hg => rfl); (case hr => first | (go_simp; done) | (go_simp; rfl)); intro gb384 hg w3 hbox hb; have n0_ := Aside0.mk (Kd.V_below (Kd.V_elderB (by (with_reducible repeat (first | apply Kd.V_alloc | apply Kd.V_drewN | apply Kd.V_drew)); exact HO0_2.out) gb384 (Nat.le_of_eq hg.symm)) hb); have n1_ := Aside0.mk (below_step (by repeat (first | (with_reducible first | exact HB.out | apply below_alloc | apply pw_below_drewN | apply below_drew1) | exact HB.out)) hb); have n2_ := Aside0.mk (hbox); have n3_ := Aside0.mk ((by rw [hg]; exact (below_size (by repeat (first | (with_reducible first | exact HB.out | apply below_alloc | apply pw_below_drewN | apply below_drew1) | exact HB.out))) : w.heap.size ≤ gb384)); have n4_ := Aside0.mk ((by rw [hg]; exact (below_size (by repeat (first | (with_reducible first | exact HB.out | apply below_alloc | apply pw_below_drewN | apply below_drew1) | exact HB.out))) : w.heap.size ≤ gb384)); clear HO0_2; clear HB; have HO0_2 := n0_; have HB := n1_; have BK384 := n2_; have GW384 := n3_; have GE384 := n4_; clear n0_ n1_ n2_ n3_ n4_; clear hb hbox hg) | ((with_reducible refine gate_dst (N := 2) rfl ?_); refine box_event ?hg (N := 2) ?hd (cs := #[.int .i64 0, .int .i64 0, .slice none 0 0]) (t := 35) ?hr ?_; (case hd => rfl); (case hg => rfl); (case hr => first | (go_simp; done) | (go_simp; rfl)); intro gb385 hg w4 hbox hb; have n0_ := Aside0.mk (Kd.V_below (Kd.V_elderB (by (with_reducible repeat (first | apply Kd.V_alloc | apply Kd.V_drewN | apply Kd.V_drew)); exact HO0_2.out) gb385 (Nat.le_of_eq hg.symm)) hb); have n1_ := Aside0.mk (blk_below (g := gb384) (o := .cells #[.int .i64 a0_0, .int .i64 a0_1, .slice A0_2 l0_2.length c0_2] 35 (0, 0)) (by (with_reducible repeat (first | refine blk_drewN ?_ _ | refine blk_drew ?_ | refine blk_alloc ?_ _)); exact BK384.out) hb); have n2_ := Aside0.mk (below_step (by repeat (first | (with_reducible first | exact HB.out | apply below_alloc | apply pw_below_drewN | apply below_drew1 | refine below_set ?_ GE384.out) | exact HB.out)) hb); have n3_ := Aside0.mk (hbox); have n4_ := Aside0.mk ((by rw [hg]; exact (below_size (by repeat (first | (with_reducible first | exact HB.out | apply below_alloc | apply pw_below_drewN | apply below_drew1 | refine below_set ?_ GE384.out) | exact HB.out))) : w.heap.size ≤ gb385)); have n5_ := Aside0.mk ((by rw [hg]; exact (below_size (by repeat (first | (with_reducible first | exact HB.out | apply below_alloc | apply pw_below_drewN | apply below_drew1 | refine below_set ?_ GE384.out) | exact HB.out))) : w.heap.size ≤ gb385)); have n6_ := Aside0.mk ((by rw [hg]; exact Nat.ne_of_lt (blk_lt (g := gb384) (o := .cells #[.int .i64 a0_0, .int .i64 a0_1, .slice A0_2 l0_2.length c0_2] 35 (0, 0)) (by (with_reducible repeat (first | refine blk_drewN ?_ _ | refine blk_drew ?_ | refine blk_alloc ?_ _)); exact BK384.out)) : gb384 ≠ gb385)); have n7_ := Aside0.mk ((by rw [hg]; exact Nat.ne_of_gt (blk_lt (g := gb384) (o := .cells #[.int .i64 a0_0, .int .i64 a0_1, .slice A0_2 l0_2.length c0_2] 35 (0, 0)) (by (with_reducible repeat (first | refine blk_drewN ?_ _ | refine blk_drew ?_ | refine blk_alloc ?_ _)); exact BK384.out)) : gb385 ≠ gb384)); clear HO0_2; clear BK384; clear HB; have HO0_2 := n0_; have BK384 := n1_; have HB := n2_; have BK385 := n3_; have GW385 := n4_; have GE385 := n5_; have NB384_385 := n6_; have NB385_384 := n7_; clear n0_ n1_ n2_ n3_ n4_ n5_ n6_ n7_; clear hb hbox hg; have hnb5 := NB384_385.out; have hnc5 := NB385_384.out; have hcz6_0 : w4.cell? ⟨gb384, 0, none⟩ = some (.int .i64 a0_0) := (blk_cell BK384.out 0).trans rfl; have hcz6_1 : w4.cell? ⟨gb384, 1, none⟩ = some (.int .i64 a0_1) := (blk_cell BK384.out 1).trans rfl; have hcz6_2 : w4.cell? ⟨gb384, 2, none⟩ = some (.slice A0_2 l0_2.length c0_2) := (blk_cell BK384.out 2).trans rfl; have hfz6_0 := blk_frozen BK384.out 0; have hfz6_1 := blk_frozen BK384.out 1; have hfz6_2 := blk_frozen BK384.out 2; have hcz7_0 : w4.cell? ⟨gb385, 0, none⟩ = some (.int .i64 0) := (blk_cell BK385.out 0).trans rfl; have hcz7_1 : w4.cell? ⟨gb385, 1, none⟩ = some (.int .i64 0) := (blk_cell BK385.out 1).trans rfl; have hcz7_2 : w4.cell? ⟨gb385, 2, none⟩ = some (.slice none 0 0) := (blk_cell BK385.out 2).trans rfl; have hfz7_0 := blk_frozen BK385.out 0; have hfz7_1 := blk_frozen BK385.out 1; have hfz7_2 := blk_frozen BK385.out 2))
    refine bodyPost_ret (results_cell_row rfl _ _ gb385 35 #[.int .i64 a0_0, .int .i64 a0_1, .slice A0_2 l0_2.length c0_2] (0, 0) _ rfl (by (with_reducible repeat (first | refine blk_drewN ?_ _ | refine blk_drew ?_ | refine blk_alloc ?_ _)); refine blk_put (cs := #[.int .i64 a0_0, .int .i64 a0_1, .slice none 0 0]) ?_ 2 _ rfl; (with_reducible repeat (first | refine blk_drewN ?_ _ | refine blk_drew ?_ | refine blk_alloc ?_ _)); refine blk_put (cs := #[.int .i64 a0_0, .int .i64 0, .slice none 0 0]) ?_ 1 _ rfl; (with_reducible repeat (first | refine blk_drewN ?_ _ | refine blk_drew ?_ | refine blk_alloc ?_ _)); refine blk_put (cs := #[.int .i64 0, .int .i64 0, .slice none 0 0]) ?_ 0 _ rfl; (with_reducible repeat (first | refine blk_drewN ?_ _ | refine blk_drew ?_ | refine blk_alloc ?_ _)); exact BK385.out) Try.underlying35 rfl (by kernel_rfl)) rfl ?_
    exact ⟨_, by first | rfl | (simp [errW_none, errW_some] <;> rfl) | (simp [*, errW_none, errW_some] <;> rfl), by (with_reducible repeat (first | apply Kd.V_alloc | apply Kd.V_drewN | apply Kd.V_drew)); exact Kd.V_mono (Kd.V_far (p := ⟨gb385, 2, none⟩) (Kd.V_far (p := ⟨gb385, 1, none⟩) (Kd.V_far (p := ⟨gb385, 0, none⟩) (Kd.V_mono HO0_2.out (fun k_ hk => (⟨hk, hk.2⟩ : _ ∧ k_ ≠ gb385))) (fun _ hk => hk.2) (.int .i64 a0_0)) (fun _ hk => hk.2) (.int .i64 a0_1)) (fun _ hk => hk.2) (.slice A0_2 l0_2.length c0_2)) (fun _ hk => hk.1.1.1), by repeat (first | (with_reducible first | exact HB.out | apply below_alloc | apply pw_below_drewN | apply below_drew1 | refine below_set ?_ GE384.out | refine below_set ?_ GE385.out) | exact HB.out)⟩
  · rw [if_neg c2] at H
    have c2b0 : ((l0_2.length : Int) == 0) = false := beq_eq_false_iff_ne.mpr c2
    have c2b1 : ((l0_2.length : Int) != 0) = true := bne_iff_ne.mpr c2
    have c2b2 : ¬ (l0_2 = []) := fun h_ => c2 (by rw [h_]; rfl)
    have H' := Aside0.mk H
    clear H
    go_enter Try.func37, Try.ntmps37
    go_wp2_with (first | ((with_reducible refine gate_dst (N := 1) rfl ?_); refine box_event ?hg (N := 1) ?hd (cs := #[.int .i64 a0_0, .int .i64 a0_1, .slice A0_2 l0_2.length c0_2]) (t := 35) ?hr ?_; (case hd => rfl); (case hg => rfl); (case hr => first | (go_simp; done) | (go_simp; rfl)); intro gb384 hg w8 hbox hb; have n0_ := Aside0.mk (Kd.V_below (Kd.V_elderB (by (with_reducible repeat (first | apply Kd.V_alloc | apply Kd.V_drewN | apply Kd.V_drew)); exact HO0_2.out) gb384 (Nat.le_of_eq hg.symm)) hb); have n1_ := Aside0.mk (below_step (by repeat (first | (with_reducible first | exact HB.out | apply below_alloc | apply pw_below_drewN | apply below_drew1) | exact HB.out)) hb); have n2_ := Aside0.mk (hbox); have n3_ := Aside0.mk ((by rw [hg]; exact (below_size (by repeat (first | (with_reducible first | exact HB.out | apply below_alloc | apply pw_below_drewN | apply below_drew1) | exact HB.out))) : w.heap.size ≤ gb384)); have n4_ := Aside0.mk ((by rw [hg]; exact (below_size (by repeat (first | (with_reducible first | exact HB.out | apply below_alloc | apply pw_below_drewN | apply below_drew1) | exact HB.out))) : w.heap.size ≤ gb384)); clear HO0_2; clear HB; have HO0_2 := n0_; have HB := n1_; have BK384 := n2_; have GW384 := n3_; have GE384 := n4_; clear n0_ n1_ n2_ n3_ n4_; clear hb hbox hg) | ((with_reducible refine gate_dst (N := 2) rfl ?_); refine box_event ?hg (N := 2) ?hd (cs := #[.int .i64 0, .int .i64 0, .slice none 0 0]) (t := 35) ?hr ?_; (case hd => rfl); (case hg => rfl); (case hr => first | (go_simp; done) | (go_simp; rfl)); intro gb385 hg w9 hbox hb; have n0_ := Aside0.mk (Kd.V_below (Kd.V_elderB (by (with_reducible repeat (first | apply Kd.V_alloc | apply Kd.V_drewN | apply Kd.V_drew)); exact HO0_2.out) gb385 (Nat.le_of_eq hg.symm)) hb); have n1_ := Aside0.mk (blk_below (g := gb384) (o := .cells #[.int .i64 a0_0, .int .i64 a0_1, .slice A0_2 l0_2.length c0_2] 35 (0, 0)) (by (with_reducible repeat (first | refine blk_drewN ?_ _ | refine blk_drew ?_ | refine blk_alloc ?_ _)); exact BK384.out) hb); have n2_ := Aside0.mk (below_step (by repeat (first | (with_reducible first | exact HB.out | apply below_alloc | apply pw_below_drewN | apply below_drew1 | refine below_set ?_ GE384.out) | exact HB.out)) hb); have n3_ := Aside0.mk (hbox); have n4_ := Aside0.mk ((by rw [hg]; exact (below_size (by repeat (first | (with_reducible first | exact HB.out | apply below_alloc | apply pw_below_drewN | apply below_drew1 | refine below_set ?_ GE384.out) | exact HB.out))) : w.heap.size ≤ gb385)); have n5_ := Aside0.mk ((by rw [hg]; exact (below_size (by repeat (first | (with_reducible first | exact HB.out | apply below_alloc | apply pw_below_drewN | apply below_drew1 | refine below_set ?_ GE384.out) | exact HB.out))) : w.heap.size ≤ gb385)); have n6_ := Aside0.mk ((by rw [hg]; exact Nat.ne_of_lt (blk_lt (g := gb384) (o := .cells #[.int .i64 a0_0, .int .i64 a0_1, .slice A0_2 l0_2.length c0_2] 35 (0, 0)) (by (with_reducible repeat (first | refine blk_drewN ?_ _ | refine blk_drew ?_ | refine blk_alloc ?_ _)); exact BK384.out)) : gb384 ≠ gb385)); have n7_ := Aside0.mk ((by rw [hg]; exact Nat.ne_of_gt (blk_lt (g := gb384) (o := .cells #[.int .i64 a0_0, .int .i64 a0_1, .slice A0_2 l0_2.length c0_2] 35 (0, 0)) (by (with_reducible repeat (first | refine blk_drewN ?_ _ | refine blk_drew ?_ | refine blk_alloc ?_ _)); exact BK384.out)) : gb385 ≠ gb384)); clear HO0_2; clear BK384; clear HB; have HO0_2 := n0_; have BK384 := n1_; have HB := n2_; have BK385 := n3_; have GW385 := n4_; have GE385 := n5_; have NB384_385 := n6_; have NB385_384 := n7_; clear n0_ n1_ n2_ n3_ n4_ n5_ n6_ n7_; clear hb hbox hg; have hnb10 := NB384_385.out; have hnc10 := NB385_384.out; have hcz11_0 : w9.cell? ⟨gb384, 0, none⟩ = some (.int .i64 a0_0) := (blk_cell BK384.out 0).trans rfl; have hcz11_1 : w9.cell? ⟨gb384, 1, none⟩ = some (.int .i64 a0_1) := (blk_cell BK384.out 1).trans rfl; have hcz11_2 : w9.cell? ⟨gb384, 2, none⟩ = some (.slice A0_2 l0_2.length c0_2) := (blk_cell BK384.out 2).trans rfl; have hfz11_0 := blk_frozen BK384.out 0; have hfz11_1 := blk_frozen BK384.out 1; have hfz11_2 := blk_frozen BK384.out 2) | ((with_reducible refine gate_dst (N := 3) rfl ?_); refine box_event ?hg (N := 3) ?hd (cs := #[.int .i64 0, .int .i64 0, .slice none 0 0]) (t := 35) ?hr ?_; (case hd => rfl); (case hg => rfl); (case hr => first | (go_simp; done) | (go_simp; rfl)); intro gb386 hg w12 hbox hb; have n0_ := Aside0.mk (Kd.V_below (Kd.V_elderB (by (with_reducible repeat (first | apply Kd.V_alloc | apply Kd.V_drewN | apply Kd.V_drew)); exact HO0_2.out) gb386 (Nat.le_of_eq hg.symm)) hb); have n1_ := Aside0.mk (blk_below (g := gb384) (o := .cells #[.int .i64 a0_0, .int .i64 a0_1, .slice A0_2 l0_2.length c0_2] 35 (0, 0)) (by (with_reducible repeat (first | refine blk_drewN ?_ _ | refine blk_drew ?_ | refine blk_alloc ?_ _)); exact BK384.out) hb); have n2_ := Aside0.mk (blk_below (g := gb385) (o := .cells #[.int .i64 0, .int .i64 0, .slice none 0 0] 35 (0, 0)) (by (with_reducible repeat (first | refine blk_drewN ?_ _ | refine blk_drew ?_ | refine blk_alloc ?_ _)); exact BK385.out) hb); have n3_ := Aside0.mk (below_step (by repeat (first | (with_reducible first | exact HB.out | apply below_alloc | apply pw_below_drewN | apply below_drew1 | refine below_set ?_ GE384.out | refine below_set ?_ GE385.out) | exact HB.out)) hb); have n4_ := Aside0.mk (hbox); have n5_ := Aside0.mk ((by rw [hg]; exact (below_size (by repeat (first | (with_reducible first | exact HB.out | apply below_alloc | apply pw_below_drewN | apply below_drew1 | refine below_set ?_ GE384.out | refine below_set ?_ GE385.out) | exact HB.out))) : w.heap.size ≤ gb386)); have n6_ := Aside0.mk ((by rw [hg]; exact (below_size (by repeat (first | (with_reducible first | exact HB.out | apply below_alloc | apply pw_below_drewN | apply below_drew1 | refine below_set ?_ GE384.out | refine below_set ?_ GE385.out) | exact HB.out))) : w.heap.size ≤ gb386)); have n7_ := Aside0.mk ((by rw [hg]; exact Nat.ne_of_lt (blk_lt (g := gb384) (o := .cells #[.int .i64 a0_0, .int .i64 a0_1, .slice A0_2 l0_2.length c0_2] 35 (0, 0)) (by (with_reducible repeat (first | refine blk_drewN ?_ _ | refine blk_drew ?_ | refine blk_alloc ?_ _)); exact BK384.out)) : gb384 ≠ gb386)); have n8_ := Aside0.mk ((by rw [hg]; exact Nat.ne_of_gt (blk_lt (g := gb384) (o := .cells #[.int .i64 a0_0, .int .i64 a0_1, .slice A0_2 l0_2.length c0_2] 35 (0, 0)) (by (with_reducible repeat (first | refine blk_drewN ?_ _ | refine blk_drew ?_ | refine blk_alloc ?_ _)); exact BK384.out)) : gb386 ≠ gb384)); have n9_ := Aside0.mk ((by rw [hg]; exact Nat.ne_of_lt (blk_lt (g := gb385) (o := .cells #[.int .i64 0, .int .i64 0, .slice none 0 0] 35 (0, 0)) (by (with_reducible repeat (first | refine blk_drewN ?_ _ | refine blk_drew ?_ | refine blk_alloc ?_ _)); exact BK385.out)) : gb385 ≠ gb386)); have n10_ := Aside0.mk ((by rw [hg]; exact Nat.ne_of_gt (blk_lt (g := gb385) (o := .cells #[.int .i64 0, .int .i64 0, .slice none 0 0] 35 (0, 0)) (by (with_reducible repeat (first | refine blk_drewN ?_ _ | refine blk_drew ?_ | refine blk_alloc ?_ _)); exact BK385.out)) : gb386 ≠ gb385)); clear HO0_2; clear BK384; clear BK385; clear HB; have HO0_2 := n0_; have BK384 := n1_; have BK385 := n2_; have HB := n3_; have BK386 := n4_; have GW386 := n5_; have GE386 := n6_; have NB384_386 := n7_; have NB386_384 := n8_; have NB385_386 := n9_; have NB386_385 := n10_; clear n0_ n1_ n2_ n3_ n4_ n5_ n6_ n7_ n8_ n9_ n10_; clear hb hbox hg; have hnb13 := NB386_384.out; have hnc13 := NB384_386.out; have hnb14 := NB386_385.out; have hnc14 := NB385_386.out; have hcz15_0 : w12.cell? ⟨gb386, 0, none⟩ = some (.int .i64 0) := (blk_cell BK386.out 0).trans rfl; have hcz15_1 : w12.cell? ⟨gb386, 1, none⟩ = some (.int .i64 0) := (blk_cell BK386.out 1).trans rfl; have hcz15_2 : w12.cell? ⟨gb386, 2, none⟩ = some (.slice none 0 0) := (blk_cell BK386.out 2).trans rfl; have hfz15_0 := blk_frozen BK386.out 0; have hfz15_1 := blk_frozen BK386.out 1; have hfz15_2 := blk_frozen BK386.out 2))
    (try simp only [Act.put, List.setIfInBounds_toArray, List.set_cons_zero, List.set_cons_succ])
    go_loopg [4, 5] k (fun kq v4 v5 w' => ∃ (x4_1 : Bool) (x5_1 : Int) (x387002_1 : List (S35)) (u387002 : Value), v4 = .bool x4_1 ∧ v5 = .int .i64 x5_1 ∧ Aside0 (headgateref21_reckon.l0 kq x4_1 x5_1 a0_0 a0_1 l0_2 a0_0 a0_1 x387002_1 = some (r1, r2, r3)) ∧ Aside0 (kq ≤ k) ∧ Aside0 (Kd.V k35 35 w' w.heap.size (fun k_ => (P0_2_ k_ ∨ w.heap.size ≤ k_) ∧ some k_ ≠ (u387002 : Value).ownBlock ∧ k_ ≠ gb384 ∧ k_ ≠ gb385 ∧ k_ ≠ gb386) (.slice A0_2 l0_2.length c0_2) l0_2) ∧ Aside0 (Kd.N k35 35 w' w.heap.size (fun k_ => (P0_2_ k_ ∨ w.heap.size ≤ k_) ∧ k_ ≠ gb384 ∧ k_ ≠ gb385 ∧ k_ ≠ gb386) u387002 x387002_1) ∧ Aside0 (w'.heap[gb384]? = some (.cells #[.int .i64 a0_0, .int .i64 a0_1, (.slice A0_2 l0_2.length c0_2)] 35 (0, 0))) ∧ Aside0 (w'.heap[gb385]? = some (.cells #[.int .i64 0, .int .i64 0, (.slice none 0 0)] 35 (0, 0))) ∧ Aside0 (w'.heap[gb386]? = some (.cells #[.int .i64 a0_0, .int .i64 a0_1, u387002] 35 (0, 0))) ∧ Aside0 (Below w.heap.size w w'))
    case atStart => exact ⟨(true), (0), (([] : List (S35))), (.slice none 0 0), (by first | rfl | (simp; done) | (simp [*]; done)), (by first | rfl | (simp; done) | (simp [*]; done)), H', ⟨Nat.le_refl _⟩, ⟨by (with_reducible repeat (first | apply Kd.V_alloc | apply Kd.V_drewN | apply Kd.V_drew)); exact Kd.V_mono (Kd.V_far (p := ⟨gb386, 2, none⟩) (Kd.V_far (p := ⟨gb386, 1, none⟩) (Kd.V_far (p := ⟨gb386, 0, none⟩) (Kd.V_mono HO0_2.out (fun k_ hk => (⟨hk, hk.2⟩ : _ ∧ k_ ≠ gb386))) (fun _ hk => hk.2) (.int .i64 a0_0)) (fun _ hk => hk.2) (.int .i64 a0_1)) (fun _ hk => hk.2) (.slice none 0 0)) (fun _ hk => ⟨hk.1.1.1.1, ⟨(by simp [Value.ownBlock]), ⟨hk.1.1.1.2, ⟨hk.1.1.2, hk.1.2⟩⟩⟩⟩)⟩, ⟨by first | exact Kd.R_nil _ _ _ _ _ | exact Kd.N_nil _ _ _ _ _ | exact Kd.V_nil _ _ _ _ _ | exact Kd.Q_nil _ _ _ _ _ | exact Kd.S_nil _ _ _ _ _⟩, ⟨by (with_reducible repeat (first | refine blk_drewN ?_ _ | refine blk_drew ?_ | refine blk_alloc ?_ _)); refine blk_far ?_ NB384_386.out _; (with_reducible repeat (first | refine blk_drewN ?_ _ | refine blk_drew ?_ | refine blk_alloc ?_ _)); refine blk_far ?_ NB384_386.out _; (with_reducible repeat (first | refine blk_drewN ?_ _ | refine blk_drew ?_ | refine blk_alloc ?_ _)); refine blk_far ?_ NB384_386.out _; (with_reducible repeat (first | refine blk_drewN ?_ _ | refine blk_drew ?_ | refine blk_alloc ?_ _)); exact BK384.out⟩, ⟨by (with_reducible repeat (first | refine blk_drewN ?_ _ | refine blk_drew ?_ | refine blk_alloc ?_ _)); refine blk_far ?_ NB385_386.out _; (with_reducible repeat (first | refine blk_drewN ?_ _ | refine blk_drew ?_ | refine blk_alloc ?_ _)); refine blk_far ?_ NB385_386.out _; (with_reducible repeat (first | refine blk_drewN ?_ _ | refine blk_drew ?_ | refine blk_alloc ?_ _)); refine blk_far ?_ NB385_386.out _; (with_reducible repeat (first | refine blk_drewN ?_ _ | refine blk_drew ?_ | refine blk_alloc ?_ _)); exact BK385.out⟩, ⟨by (with_reducible repeat (first | refine blk_drewN ?_ _ | refine blk_drew ?_ | refine blk_alloc ?_ _)); refine blk_put (cs := #[.int .i64 a0_0, .int .i64 a0_1, .slice none 0 0]) ?_ 2 _ rfl; (with_reducible repeat (first | refine blk_drewN ?_ _ | refine blk_drew ?_ | refine blk_alloc ?_ _)); refine blk_put (cs := #[.int .i64 a0_0, .int .i64 0, .slice none 0 0]) ?_ 1 _ rfl; (with_reducible repeat (first | refine blk_drewN ?_ _ | refine blk_drew ?_ | refine blk_alloc ?_ _)); refine blk_put (cs := #[.int .i64 0, .int .i64 0, .slice none 0 0]) ?_ 0 _ rfl; (with_reducible repeat (first | refine blk_drewN ?_ _ | refine blk_drew ?_ | refine blk_alloc ?_ _)); exact BK386.out⟩, ⟨by repeat (first | (with_reducible first | exact HB.out | apply below_alloc | apply pw_below_drewN | apply below_drew1 | refine below_set ?_ GE384.out | refine below_set ?_ GE385.out | refine below_set ?_ GE386.out) | exact HB.out)⟩⟩
    case round =>
      clear H'
      try clear c1
      try clear c2
      try clear c2b0
      try clear c2b1
      try clear c2b2
      try clear p2
      try clear c3
      try clear c5
      try clear c10
      try clear c13
      try clear c14
      try clear hcz11_0
      try clear hcz11_1
      try clear hcz11_2
      try clear hcz15_0
      try clear hcz15_1
      try clear hcz15_2
      try clear hcz6_0
      try clear hcz6_1
      try clear hcz6_2
      try clear hcz7_0
      try clear hcz7_1
      try clear hcz7_2
      try clear hfz11_0
      try clear hfz11_1
      try clear hfz11_2
      try clear hfz15_0
      try clear hfz15_1
      try clear hfz15_2
      try clear hfz6_0
      try clear hfz6_1
      try clear hfz6_2
      try clear hfz7_0
      try clear hfz7_1
      try clear hfz7_2
      obtain ⟨x4_1, x5_1, x387002_1, u387002, rfl, rfl, HA, HK1, HO_385002, HO_387002, BK384, BK385, BK386, HB⟩ := hrel
      cases gk with
      | zero => exact absurd HA.out (by simp [headgateref21_reckon.l0])
      | succ k1 =>
        have H := HA.out
        clear HA
        simp only [headgateref21_reckon.l0] at H
        by_cases c16 : x5_1 < (l0_2.length : Int)
        · rw [if_pos c16] at H
          have c16b0 : decide (x5_1 < (l0_2.length : Int)) = true := decide_eq_true c16
          clear c16
          by_cases c17 : 0 ≤ x5_1
          · rw [if_pos c17] at H
            have c17b0 : decide (0 ≤ x5_1) = true := decide_eq_true c17
            clear c17
            replace H := Option.bind_eq_some_iff.mp H
            obtain ⟨⟨t388, t389, t390⟩, A180, H⟩ := H
            replace H : (if x387002_1.length < 3518437208883 then ((some (x387002_1 ++ [(⟨t388, t389, t390⟩ : S35)] : List (S35))).bind fun y394 => (if x4_1 = true then ((headgateref21_Constant.f t388 t389 t390).bind fun t397 => (headgateref21_reckon.l0 k1 t397 (wrap64 (x5_1 + 1)) a0_0 a0_1 l0_2 a0_0 a0_1 y394)) else (headgateref21_reckon.l0 k1 false (wrap64 (x5_1 + 1)) a0_0 a0_1 l0_2 a0_0 a0_1 y394))) else (none)) = some (r1, r2, r3) := H
            have A18 := Aside0.mk A180
            clear A180
            by_cases c19 : x387002_1.length < 3518437208883
            · rw [if_pos c19] at H
              have LMc19 := Aside0.mk c19
              clear c19
              obtain ⟨y394, hy394⟩ : ∃ y_ : List (S35), y_ = (x387002_1 ++ [(⟨t388, t389, t390⟩ : S35)]) := ⟨_, rfl⟩
              replace H : (if x4_1 = true then ((headgateref21_Constant.f t388 t389 t390).bind fun t397 => (headgateref21_reckon.l0 k1 t397 (wrap64 (x5_1 + 1)) a0_0 a0_1 l0_2 a0_0 a0_1 y394)) else (headgateref21_reckon.l0 k1 false (wrap64 (x5_1 + 1)) a0_0 a0_1 l0_2 a0_0 a0_1 y394)) = some (r1, r2, r3) := by first | (rw [hy394]; with_reducible exact H) | (have H2_ := (Option.bind_some _ _).symm.trans H; rw [hy394]; with_reducible exact H2_) | (have H2_ := (Option.bind_some _ _).symm.trans H; with_reducible exact H2_) | with_reducible exact H | (rw [hy394]; exact H) | exact H
              have Ny394 := Aside0.mk hy394
              clear hy394
              by_cases c20 : x4_1 = true
              · subst c20
                have H1 : ((headgateref21_Constant.f t388 t389 t390).bind fun t397 => (headgateref21_reckon.l0 k1 t397 (wrap64 (x5_1 + 1)) a0_0 a0_1 l0_2 a0_0 a0_1 y394)) = some (r1, r2, r3) := by rw [if_pos rfl] at H; exact H
                clear H
                have H := H1
                clear H1
                replace H := Option.bind_eq_some_iff.mp H
                obtain ⟨t397, A210, H⟩ := H
                replace H : (headgateref21_reckon.l0 k1 t397 (wrap64 (x5_1 + 1)) a0_0 a0_1 l0_2 a0_0 a0_1 y394) = some (r1, r2, r3) := H
                have A21 := Aside0.mk A210
                clear A210
                have H' := Aside0.mk H
                clear H
                have hnb22 := NB384_385.out
                have hnc22 := NB385_384.out
                have hnb23 := NB384_386.out
                have hnc23 := NB386_384.out
                have hcz24_0 : wr.cell? ⟨gb384, 0, none⟩ = some (.int .i64 a0_0) := (blk_cell BK384.out 0).trans rfl
                have hcz24_1 : wr.cell? ⟨gb384, 1, none⟩ = some (.int .i64 a0_1) := (blk_cell BK384.out 1).trans rfl
                have hcz24_2 : wr.cell? ⟨gb384, 2, none⟩ = some (.slice A0_2 l0_2.length c0_2) := (blk_cell BK384.out 2).trans rfl
                have hfz24_0 := blk_frozen BK384.out 0
                have hfz24_1 := blk_frozen BK384.out 1
                have hfz24_2 := blk_frozen BK384.out 2
                have p387 : 0 ≤ (x5_1 : Int) := of_decide_eq_true (by first | (with_reducible assumption) | assumption)
                have q387 : x5_1 < (l0_2.length : Int) := of_decide_eq_true (by first | (with_reducible assumption) | assumption)
                obtain ⟨ad387, A387_2, c387_2, e387, hx387_0, hx387_1, hx387_2, hl387_2, hi387_2⟩ := at_T35 (Kd.V_reads' HO_385002.out).2.2 x5_1 p387 q387
                cases e387
                obtain ⟨ce387, hce387, hMe387, hcc387⟩ := Kd.V_get HO_385002.out z35 x5_1 p387 (by first | exact q387 | exact of_decide_eq_true (by first | (with_reducible assumption) | assumption) | (have e_ := (Kd.V_reads' HO_385002.out).1; omega))
                obtain ⟨ua387_2, uc387_2, rfl, ul387_2, ge387_2⟩ := k35_openF hMe387
                have hv387_2 := hcc387 2 _ rfl
                rw [add_field _ _ 2 (by omega)] at hv387_2
                replace hv387_2 := Option.some.inj (hv387_2.symm.trans hx387_2)
                injection hv387_2 with hva_ hvn_ hvc_
                rw [hva_] at ge387_2
                rw [hvc_] at ul387_2
                have HL387_2 := Aside0.mk (show Kd.V k35 35 _ w.heap.size _ _ ((rd_T35 l0_2 x5_1).f2) from Kd.V_mk ul387_2 ge387_2)
                clear hva_ hvn_ hvc_ ge387_2 ul387_2
                clear hcc387 hce387
                have HR387_2 := Aside0.mk hi387_2
                have HC387_2 := Aside0.mk hl387_2
                clear hi387_2 hl387_2
                replace p387 := eq_true p387
                replace q387 := eq_true q387
                go_wp2_with (first | ((with_reducible refine gate_callee (f := 37) rfl ?_); refine goesL_ (some 30) rfl rfl Try.func37 (by kernel_rfl) rfl #[.agg #[.int .i64 ((rd_T35 l0_2 x5_1).f0), .int .i64 ((rd_T35 l0_2 x5_1).f1), .slice A387_2 ((rd_T35 l0_2 x5_1).f2).length c387_2]] rfl (by (try simp only [List.map_toArray, List.map_cons, List.map_nil]); first | done | rfl | (simp only [List.length_drop, List.length_take]; rfl)) ?_; (with_reducible refine (ih k1 (by have := HK1.out; omega) ((rd_T35 l0_2 x5_1).f0) ((rd_T35 l0_2 x5_1).f1) (fun k_ => ((P0_2_ k_ ∨ w.heap.size ≤ k_) ∧ (some k_ ≠ (u387002 : Value).ownBlock ∧ (k_ ≠ gb384 ∧ (k_ ≠ gb385 ∧ k_ ≠ gb386))))) _ _ ((rd_T35 l0_2 x5_1).f2) t388 t389 t390 _ ?side1 A18.out).mono ?_); (case side1 => exact HL387_2.out); rintro e w25 ⟨v391, rfl, ho0, hb⟩; refine ⟨_, rfl, ?_⟩; have n0_ := Aside0.mk (Kd.V_below (by (with_reducible repeat (first | apply Kd.V_alloc | apply Kd.V_drewN | apply Kd.V_drew)); exact HO_385002.out) hb); have n1_ := Aside0.mk (Kd.N_below (by (with_reducible repeat (first | apply Kd.N_alloc | apply Kd.N_drewN | apply Kd.N_drew)); exact HO_387002.out) hb); have n2_ := Aside0.mk (Kd.V_below (by (with_reducible repeat (first | apply Kd.V_alloc | apply Kd.V_drewN | apply Kd.V_drew)); exact HL387_2.out) hb); have n3_ := Aside0.mk (Kd.V_lower (Kd.V_mono (ok' := fun k_ => (P0_2_ k_ ∨ w.heap.size ≤ k_) ∧ some k_ ≠ (u387002 : Value).ownBlock ∧ k_ ≠ gb384 ∧ k_ ≠ gb385 ∧ k_ ≠ gb386) ho0 (fun k_ hk_ => ⟨Or.elim hk_ (fun hs_ => hs_.1) (fun hn_ => (.inr (Nat.le_trans (below_size (by repeat (first | (with_reducible first | exact HB.out | apply below_alloc | apply pw_below_drewN | apply below_drew1 | refine below_set ?_ GE384.out | refine below_set ?_ GE385.out | refine below_set ?_ GE386.out) | exact HB.out))) hn_))), Or.elim hk_ (fun hs_ => hs_.2.1) (fun hn_ => (Kd.fresh' (Kd.N_lt (by (with_reducible repeat (first | apply Kd.N_alloc | apply Kd.N_drewN | apply Kd.N_drew)); exact HO_387002.out)) k_ hn_)), Or.elim hk_ (fun hs_ => hs_.2.2.1) (fun hn_ => (Kd.freshB (g := gb384) (o := .cells #[.int .i64 a0_0, .int .i64 a0_1, .slice (some ad387) l0_2.length c0_2] 35 (0, 0)) (by (with_reducible repeat (first | refine blk_drewN ?_ _ | refine blk_drew ?_ | refine blk_alloc ?_ _)); exact BK384.out) k_ hn_)), Or.elim hk_ (fun hs_ => hs_.2.2.2.1) (fun hn_ => (Kd.freshB (g := gb385) (o := .cells #[.int .i64 0, .int .i64 0, .slice none 0 0] 35 (0, 0)) (by (with_reducible repeat (first | refine blk_drewN ?_ _ | refine blk_drew ?_ | refine blk_alloc ?_ _)); exact BK385.out) k_ hn_)), Or.elim hk_ (fun hs_ => hs_.2.2.2.2) (fun hn_ => (Kd.freshB (g := gb386) (o := .cells #[.int .i64 a0_0, .int .i64 a0_1, u387002] 35 (0, 0)) (by (with_reducible repeat (first | refine blk_drewN ?_ _ | refine blk_drew ?_ | refine blk_alloc ?_ _)); exact BK386.out) k_ hn_))⟩)) (below_size (by repeat (first | (with_reducible first | exact HB.out | apply below_alloc | apply pw_below_drewN | apply below_drew1 | refine below_set ?_ GE384.out | refine below_set ?_ GE385.out | refine below_set ?_ GE386.out) | exact HB.out)))); have n4_ := Aside0.mk (blk_below (g := gb384) (o := .cells #[.int .i64 a0_0, .int .i64 a0_1, .slice (some ad387) l0_2.length c0_2] 35 (0, 0)) (by (with_reducible repeat (first | refine blk_drewN ?_ _ | refine blk_drew ?_ | refine blk_alloc ?_ _)); exact BK384.out) hb); have n5_ := Aside0.mk (blk_below (g := gb385) (o := .cells #[.int .i64 0, .int .i64 0, .slice none 0 0] 35 (0, 0)) (by (with_reducible repeat (first | refine blk_drewN ?_ _ | refine blk_drew ?_ | refine blk_alloc ?_ _)); exact BK385.out) hb); have n6_ := Aside0.mk (blk_below (g := gb386) (o := .cells #[.int .i64 a0_0, .int .i64 a0_1, u387002] 35 (0, 0)) (by (with_reducible repeat (first | refine blk_drewN ?_ _ | refine blk_drew ?_ | refine blk_alloc ?_ _)); exact BK386.out) hb); have n7_ := Aside0.mk (Kd.C_below (by repeat (first | (with_reducible exact HR387_2.out) | (with_reducible refine Kd.C_alloc ?_ _) | (with_reducible refine Kd.C_drewN ?_ _) | (with_reducible refine Kd.C_drew ?_) | exact HR387_2.out)) hb); have n8_ := Aside0.mk (below_step (by repeat (first | (with_reducible first | exact HB.out | apply below_alloc | apply pw_below_drewN | apply below_drew1 | refine below_set ?_ GE384.out | refine below_set ?_ GE385.out | refine below_set ?_ GE386.out) | exact HB.out)) hb); clear HO_385002; clear HO_387002; clear HL387_2; clear BK384; clear BK385; clear BK386; clear HR387_2; clear HB; have HO_385002 := n0_; have HO_387002 := n1_; have HL387_2 := n2_; have HO392 := n3_; have BK384 := n4_; have BK385 := n5_; have BK386 := n6_; have HR387_2 := n7_; have HB := n8_; clear n0_ n1_ n2_ n3_ n4_ n5_ n6_ n7_ n8_; (try clear hb); (try clear hb2); (try clear hk); (try clear hi); (try clear ho0)) | ((with_reducible refine gate_dst (N := 6) rfl ?_); refine box_event ?hg (N := 6) ?hd (cs := #[.int .i64 0, .int .i64 0, .slice none 0 0]) (t := 35) ?hr ?_; (case hd => rfl); (case hg => rfl); (case hr => first | (go_simp; done) | (go_simp; rfl)); intro gb393 hg w26 hbox hb; have n0_ := Aside0.mk (Kd.V_below (Kd.V_elderB (by (with_reducible repeat (first | apply Kd.V_alloc | apply Kd.V_drewN | apply Kd.V_drew)); exact HO_385002.out) gb393 (Nat.le_of_eq hg.symm)) hb); have n1_ := Aside0.mk (Kd.N_below (Kd.N_elderB (by (with_reducible repeat (first | apply Kd.N_alloc | apply Kd.N_drewN | apply Kd.N_drew)); exact HO_387002.out) gb393 (Nat.le_of_eq hg.symm)) hb); have n2_ := Aside0.mk (Kd.V_below (Kd.V_elderB (by (with_reducible repeat (first | apply Kd.V_alloc | apply Kd.V_drewN | apply Kd.V_drew)); exact HL387_2.out) gb393 (Nat.le_of_eq hg.symm)) hb); have n3_ := Aside0.mk (Kd.V_below (Kd.V_elderB (by (with_reducible repeat (first | apply Kd.V_alloc | apply Kd.V_drewN | apply Kd.V_drew)); exact HO392.out) gb393 (Nat.le_of_eq hg.symm)) hb); have n4_ := Aside0.mk (blk_below (g := gb384) (o := .cells #[.int .i64 a0_0, .int .i64 a0_1, .slice (some ad387) l0_2.length c0_2] 35 (0, 0)) (by (with_reducible repeat (first | refine blk_drewN ?_ _ | refine blk_drew ?_ | refine blk_alloc ?_ _)); exact BK384.out) hb); have n5_ := Aside0.mk (blk_below (g := gb385) (o := .cells #[.int .i64 0, .int .i64 0, .slice none 0 0] 35 (0, 0)) (by (with_reducible repeat (first | refine blk_drewN ?_ _ | refine blk_drew ?_ | refine blk_alloc ?_ _)); exact BK385.out) hb); have n6_ := Aside0.mk (blk_below (g := gb386) (o := .cells #[.int .i64 a0_0, .int .i64 a0_1, u387002] 35 (0, 0)) (by (with_reducible repeat (first | refine blk_drewN ?_ _ | refine blk_drew ?_ | refine blk_alloc ?_ _)); exact BK386.out) hb); have n7_ := Aside0.mk (Kd.C_below (by repeat (first | (with_reducible exact HR387_2.out) | (with_reducible refine Kd.C_alloc ?_ _) | (with_reducible refine Kd.C_drewN ?_ _) | (with_reducible refine Kd.C_drew ?_) | exact HR387_2.out)) hb); have n8_ := Aside0.mk (below_step (by repeat (first | (with_reducible first | exact HB.out | apply below_alloc | apply pw_below_drewN | apply below_drew1 | refine below_set ?_ GE384.out | refine below_set ?_ GE385.out | refine below_set ?_ GE386.out) | exact HB.out)) hb); have n9_ := Aside0.mk (hbox); have n10_ := Aside0.mk ((by rw [hg]; exact (below_size (by repeat (first | (with_reducible first | exact HB.out | apply below_alloc | apply pw_below_drewN | apply below_drew1 | refine below_set ?_ GE384.out | refine below_set ?_ GE385.out | refine below_set ?_ GE386.out) | exact HB.out))) : w.heap.size ≤ gb393)); have n11_ := Aside0.mk ((by rw [hg]; exact (below_size (by repeat (first | (with_reducible first | exact HB.out | apply below_alloc | apply pw_below_drewN | apply below_drew1 | refine below_set ?_ GE384.out | refine below_set ?_ GE385.out | refine below_set ?_ GE386.out) | exact HB.out))) : w.heap.size ≤ gb393)); have n12_ := Aside0.mk ((by rw [hg]; exact Nat.ne_of_lt (blk_lt (g := gb384) (o := .cells #[.int .i64 a0_0, .int .i64 a0_1, .slice (some ad387) l0_2.length c0_2] 35 (0, 0)) (by (with_reducible repeat (first | refine blk_drewN ?_ _ | refine blk_drew ?_ | refine blk_alloc ?_ _)); exact BK384.out)) : gb384 ≠ gb393)); have n13_ := Aside0.mk ((by rw [hg]; exact Nat.ne_of_gt (blk_lt (g := gb384) (o := .cells #[.int .i64 a0_0, .int .i64 a0_1, .slice (some ad387) l0_2.length c0_2] 35 (0, 0)) (by (with_reducible repeat (first | refine blk_drewN ?_ _ | refine blk_drew ?_ | refine blk_alloc ?_ _)); exact BK384.out)) : gb393 ≠ gb384)); have n14_ := Aside0.mk ((by rw [hg]; exact Nat.ne_of_lt (blk_lt (g := gb385) (o := .cells #[.int .i64 0, .int .i64 0, .slice none 0 0] 35 (0, 0)) (by (with_reducible repeat (first | refine blk_drewN ?_ _ | refine blk_drew ?_ | refine blk_alloc ?_ _)); exact BK385.out)) : gb385 ≠ gb393)); have n15_ := Aside0.mk ((by rw [hg]; exact Nat.ne_of_gt (blk_lt (g := gb385) (o := .cells #[.int .i64 0, .int .i64 0, .slice none 0 0] 35 (0, 0)) (by (with_reducible repeat (first | refine blk_drewN ?_ _ | refine blk_drew ?_ | refine blk_alloc ?_ _)); exact BK385.out)) : gb393 ≠ gb385)); have n16_ := Aside0.mk ((by rw [hg]; exact Nat.ne_of_lt (blk_lt (g := gb386) (o := .cells #[.int .i64 a0_0, .int .i64 a0_1, u387002] 35 (0, 0)) (by (with_reducible repeat (first | refine blk_drewN ?_ _ | refine blk_drew ?_ | refine blk_alloc ?_ _)); exact BK386.out)) : gb386 ≠ gb393)); have n17_ := Aside0.mk ((by rw [hg]; exact Nat.ne_of_gt (blk_lt (g := gb386) (o := .cells #[.int .i64 a0_0, .int .i64 a0_1, u387002] 35 (0, 0)) (by (with_reducible repeat (first | refine blk_drewN ?_ _ | refine blk_drew ?_ | refine blk_alloc ?_ _)); exact BK386.out)) : gb393 ≠ gb386)); clear HO_385002; clear HO_387002; clear HL387_2; clear HO392; clear BK384; clear BK385; clear BK386; clear HR387_2; clear HB; have HO_385002 := n0_; have HO_387002 := n1_; have HL387_2 := n2_; have HO392 := n3_; have BK384 := n4_; have BK385 := n5_; have BK386 := n6_; have HR387_2 := n7_; have HB := n8_; have BK393 := n9_; have GW393 := n10_; have GE393 := n11_; have NB384_393 := n12_; have NB393_384 := n13_; have NB385_393 := n14_; have NB393_385 := n15_; have NB386_393 := n16_; have NB393_386 := n17_; clear n0_ n1_ n2_ n3_ n4_ n5_ n6_ n7_ n8_ n9_ n10_ n11_ n12_ n13_ n14_ n15_ n16_ n17_; clear hb hbox hg; have hnb27 := NB393_384.out; have hnc27 := NB384_393.out; have hnb28 := NB393_385.out; have hnc28 := NB385_393.out; have hnb29 := NB393_386.out; have hnc29 := NB386_393.out; have hcz30_0 : w26.cell? ⟨gb393, 0, none⟩ = some (.int .i64 0) := (blk_cell BK393.out 0).trans rfl; have hcz30_1 : w26.cell? ⟨gb393, 1, none⟩ = some (.int .i64 0) := (blk_cell BK393.out 1).trans rfl; have hcz30_2 : w26.cell? ⟨gb393, 2, none⟩ = some (.slice none 0 0) := (blk_cell BK393.out 2).trans rfl; have hfz30_0 := blk_frozen BK393.out 0; have hfz30_1 := blk_frozen BK393.out 1; have hfz30_2 := blk_frozen BK393.out 2; obtain ⟨Ao31, co31, eo31⟩ := Kd.V_slice HO392.out; subst eo31) | ((with_reducible refine gate_store (t := 35) (p := 6) rfl ?_); refine store_event (t := 35) (p := 6) (v := ?vo_w32) (w1 := (((w26.setCell ⟨gb393, 0, none⟩ (.int .i64 t388)).setCell ⟨gb393, 1, none⟩ (.int .i64 t389)).setCell ⟨gb393, 2, none⟩ (.slice Ao31 t390.length co31))) ?hg ?ho ?hn ?hr ?_; (case ho => rfl); (case hg => rfl); (case hn => rfl); (case hr => first | (go_simp; done) | (go_simp; rfl)); intro w32 hw; have n0_ : Aside0 (Kd.V k35 35 w32 w.heap.size (fun k_ => (P0_2_ k_ ∨ w.heap.size ≤ k_) ∧ some k_ ≠ (u387002 : Value).ownBlock ∧ k_ ≠ gb384 ∧ k_ ≠ gb385 ∧ k_ ≠ gb386 ∧ k_ ≠ gb393) (.slice (some ad387) l0_2.length c0_2) l0_2) := ⟨(by rw [hw]; exact (by (with_reducible repeat (first | apply Kd.V_alloc | apply Kd.V_drewN | apply Kd.V_drew)); exact Kd.V_mono (Kd.V_far (p := ⟨gb393, 2, none⟩) (Kd.V_far (p := ⟨gb393, 1, none⟩) (Kd.V_far (p := ⟨gb393, 0, none⟩) (Kd.V_mono HO_385002.out (fun k_ hk => (⟨hk, hk.2⟩ : _ ∧ k_ ≠ gb393))) (fun _ hk => hk.2) (.int .i64 t388)) (fun _ hk => hk.2) (.int .i64 t389)) (fun _ hk => hk.2) (.slice Ao31 t390.length co31)) (fun _ hk => ⟨hk.1.1.1, ⟨hk.1.1.2.1, ⟨hk.1.1.2.2.1, ⟨hk.1.1.2.2.2.1, ⟨hk.1.1.2.2.2.2, hk.1.2⟩⟩⟩⟩⟩)))⟩; have n1_ : Aside0 (Kd.N k35 35 w32 w.heap.size (fun k_ => (P0_2_ k_ ∨ w.heap.size ≤ k_) ∧ k_ ≠ gb384 ∧ k_ ≠ gb385 ∧ k_ ≠ gb386 ∧ k_ ≠ gb393) u387002 x387002_1) := ⟨(by rw [hw]; exact (by (with_reducible repeat (first | apply Kd.N_alloc | apply Kd.N_drewN | apply Kd.N_drew)); exact Kd.N_mono (Kd.N_far (p := ⟨gb393, 2, none⟩) (Kd.N_far (p := ⟨gb393, 1, none⟩) (Kd.N_far (p := ⟨gb393, 0, none⟩) (Kd.N_mono HO_387002.out (fun k_ hk => (⟨hk, hk.2⟩ : _ ∧ k_ ≠ gb393))) (fun _ hk => hk.2) (.int .i64 t388)) (fun _ hk => hk.2) (.int .i64 t389)) (fun _ hk => hk.2) (.slice Ao31 t390.length co31)) (fun _ hk => ⟨hk.1.1.1, ⟨hk.1.1.2.1, ⟨hk.1.1.2.2.1, ⟨hk.1.1.2.2.2, hk.1.2⟩⟩⟩⟩)))⟩; have n2_ : Aside0 (Kd.V k35 35 w32 w.heap.size (fun k_ => (P0_2_ k_ ∨ w.heap.size ≤ k_) ∧ some k_ ≠ (u387002 : Value).ownBlock ∧ k_ ≠ gb384 ∧ k_ ≠ gb385 ∧ k_ ≠ gb386 ∧ k_ ≠ gb393) (.slice A387_2 ((rd_T35 l0_2 x5_1).f2).length c387_2) ((rd_T35 l0_2 x5_1).f2)) := ⟨(by rw [hw]; exact (by (with_reducible repeat (first | apply Kd.V_alloc | apply Kd.V_drewN | apply Kd.V_drew)); exact Kd.V_mono (Kd.V_far (p := ⟨gb393, 2, none⟩) (Kd.V_far (p := ⟨gb393, 1, none⟩) (Kd.V_far (p := ⟨gb393, 0, none⟩) (Kd.V_mono HL387_2.out (fun k_ hk => (⟨hk, hk.2⟩ : _ ∧ k_ ≠ gb393))) (fun _ hk => hk.2) (.int .i64 t388)) (fun _ hk => hk.2) (.int .i64 t389)) (fun _ hk => hk.2) (.slice Ao31 t390.length co31)) (fun _ hk => ⟨hk.1.1.1, ⟨hk.1.1.2.1, ⟨hk.1.1.2.2.1, ⟨hk.1.1.2.2.2.1, ⟨hk.1.1.2.2.2.2, hk.1.2⟩⟩⟩⟩⟩)))⟩; have n3_ : Aside0 (Kd.V k35 35 w32 w.heap.size (fun k_ => (P0_2_ k_ ∨ w.heap.size ≤ k_) ∧ some k_ ≠ (u387002 : Value).ownBlock ∧ k_ ≠ gb384 ∧ k_ ≠ gb385 ∧ k_ ≠ gb386 ∧ k_ ≠ gb393) (.slice Ao31 t390.length co31) t390) := ⟨(by rw [hw]; exact (by (with_reducible repeat (first | apply Kd.V_alloc | apply Kd.V_drewN | apply Kd.V_drew)); exact Kd.V_mono (Kd.V_far (p := ⟨gb393, 2, none⟩) (Kd.V_far (p := ⟨gb393, 1, none⟩) (Kd.V_far (p := ⟨gb393, 0, none⟩) (Kd.V_mono HO392.out (fun k_ hk => (⟨hk, hk.2⟩ : _ ∧ k_ ≠ gb393))) (fun _ hk => hk.2) (.int .i64 t388)) (fun _ hk => hk.2) (.int .i64 t389)) (fun _ hk => hk.2) (.slice Ao31 t390.length co31)) (fun _ hk => ⟨hk.1.1.1, ⟨hk.1.1.2.1, ⟨hk.1.1.2.2.1, ⟨hk.1.1.2.2.2.1, ⟨hk.1.1.2.2.2.2, hk.1.2⟩⟩⟩⟩⟩)))⟩; have n4_ : Aside0 (w32.heap[gb384]? = some (.cells #[.int .i64 a0_0, .int .i64 a0_1, .slice (some ad387) l0_2.length c0_2] 35 (0, 0))) := ⟨(by rw [hw]; exact (by (with_reducible repeat (first | refine blk_drewN ?_ _ | refine blk_drew ?_ | refine blk_alloc ?_ _)); refine blk_far ?_ NB384_393.out _; (with_reducible repeat (first | refine blk_drewN ?_ _ | refine blk_drew ?_ | refine blk_alloc ?_ _)); refine blk_far ?_ NB384_393.out _; (with_reducible repeat (first | refine blk_drewN ?_ _ | refine blk_drew ?_ | refine blk_alloc ?_ _)); refine blk_far ?_ NB384_393.out _; (with_reducible repeat (first | refine blk_drewN ?_ _ | refine blk_drew ?_ | refine blk_alloc ?_ _)); exact BK384.out))⟩; have n5_ : Aside0 (w32.heap[gb385]? = some (.cells #[.int .i64 0, .int .i64 0, .slice none 0 0] 35 (0, 0))) := ⟨(by rw [hw]; exact (by (with_reducible repeat (first | refine blk_drewN ?_ _ | refine blk_drew ?_ | refine blk_alloc ?_ _)); refine blk_far ?_ NB385_393.out _; (with_reducible repeat (first | refine blk_drewN ?_ _ | refine blk_drew ?_ | refine blk_alloc ?_ _)); refine blk_far ?_ NB385_393.out _; (with_reducible repeat (first | refine blk_drewN ?_ _ | refine blk_drew ?_ | refine blk_alloc ?_ _)); refine blk_far ?_ NB385_393.out _; (with_reducible repeat (first | refine blk_drewN ?_ _ | refine blk_drew ?_ | refine blk_alloc ?_ _)); exact BK385.out))⟩; have n6_ : Aside0 (w32.heap[gb386]? = some (.cells #[.int .i64 a0_0, .int .i64 a0_1, u387002] 35 (0, 0))) := ⟨(by rw [hw]; exact (by (with_reducible repeat (first | refine blk_drewN ?_ _ | refine blk_drew ?_ | refine blk_alloc ?_ _)); refine blk_far ?_ NB386_393.out _; (with_reducible repeat (first | refine blk_drewN ?_ _ | refine blk_drew ?_ | refine blk_alloc ?_ _)); refine blk_far ?_ NB386_393.out _; (with_reducible repeat (first | refine blk_drewN ?_ _ | refine blk_drew ?_ | refine blk_alloc ?_ _)); refine blk_far ?_ NB386_393.out _; (with_reducible repeat (first | refine blk_drewN ?_ _ | refine blk_drew ?_ | refine blk_alloc ?_ _)); exact BK386.out))⟩; have n7_ : Aside0 (w32.heap[gb393]? = some (.cells #[.int .i64 t388, .int .i64 t389, .slice Ao31 t390.length co31] 35 (0, 0))) := ⟨(by rw [hw]; exact (by (with_reducible repeat (first | refine blk_drewN ?_ _ | refine blk_drew ?_ | refine blk_alloc ?_ _)); refine blk_put (cs := #[.int .i64 t388, .int .i64 t389, .slice none 0 0]) ?_ 2 _ rfl; (with_reducible repeat (first | refine blk_drewN ?_ _ | refine blk_drew ?_ | refine blk_alloc ?_ _)); refine blk_put (cs := #[.int .i64 t388, .int .i64 0, .slice none 0 0]) ?_ 1 _ rfl; (with_reducible repeat (first | refine blk_drewN ?_ _ | refine blk_drew ?_ | refine blk_alloc ?_ _)); refine blk_put (cs := #[.int .i64 0, .int .i64 0, .slice none 0 0]) ?_ 0 _ rfl; (with_reducible repeat (first | refine blk_drewN ?_ _ | refine blk_drew ?_ | refine blk_alloc ?_ _)); exact BK393.out))⟩; have n8_ : Aside0 (Below w.heap.size w w32) := ⟨(by rw [hw]; exact (by repeat (first | (with_reducible first | exact HB.out | apply below_alloc | apply pw_below_drewN | apply below_drew1 | refine below_set ?_ GE384.out | refine below_set ?_ GE385.out | refine below_set ?_ GE386.out | refine below_set ?_ GE393.out) | exact HB.out)))⟩; clear hw; clear HO_385002; clear HO_387002; clear HL387_2; clear HO392; clear BK384; clear BK385; clear BK386; clear BK393; clear HB; have HO_385002 := n0_; have HO_387002 := n1_; have HL387_2 := n2_; have HO392 := n3_; have BK384 := n4_; have BK385 := n5_; have BK386 := n6_; have BK393 := n7_; have HB := n8_; clear n0_ n1_ n2_ n3_ n4_ n5_ n6_ n7_ n8_; have hnb33 := NB386_385.out; have hnc33 := NB385_386.out; have hcz34_0 : w32.cell? ⟨gb386, 0, none⟩ = some (.int .i64 a0_0) := (blk_cell BK386.out 0).trans rfl; have hcz34_1 : w32.cell? ⟨gb386, 1, none⟩ = some (.int .i64 a0_1) := (blk_cell BK386.out 1).trans rfl; have hcz34_2 : w32.cell? ⟨gb386, 2, none⟩ = some (u387002) := (blk_cell BK386.out 2).trans rfl; have hfz34_0 := blk_frozen BK386.out 0; have hfz34_1 := blk_frozen BK386.out 1; have hfz34_2 := blk_frozen BK386.out 2; have hcz35_0 : w32.cell? ⟨gb393, 0, none⟩ = some (.int .i64 t388) := (blk_cell BK393.out 0).trans rfl; have hcz35_1 : w32.cell? ⟨gb393, 1, none⟩ = some (.int .i64 t389) := (blk_cell BK393.out 1).trans rfl; have hcz35_2 : w32.cell? ⟨gb393, 2, none⟩ = some (.slice Ao31 t390.length co31) := (blk_cell BK393.out 2).trans rfl; have hfz35_0 := blk_frozen BK393.out 0; have hfz35_1 := blk_frozen BK393.out 1; have hfz35_2 := blk_frozen BK393.out 2) | ((with_reducible refine gate_builtin (b := .append) (xs := #[.tmp 32, .tmp 34]) rfl ?_); at_builtin; refine Kd.N_append k35 (w0 := w) w.heap.size rfl (.tmp 32) (.tmp 34) 33 35 (.agg #[(.int .i64 0), (.int .i64 0), (.slice none 0 0)]) 40 rfl Try.underlying33 info35 rfl (by decide) (by omega) u387002 x387002_1 (⟨t388, t389, t390⟩ : S35) [.int .i64 t388, .int .i64 t389, .slice Ao31 t390.length co31] (fun k_ => (P0_2_ k_ ∨ w.heap.size ≤ k_) ∧ k_ ≠ gb384 ∧ k_ ≠ gb385 ∧ k_ ≠ gb386 ∧ k_ ≠ gb393) (fun k_ => ((fun k_ => (P0_2_ k_ ∨ w.heap.size ≤ k_) ∧ k_ ≠ gb384 ∧ k_ ≠ gb385 ∧ k_ ≠ gb386 ∧ k_ ≠ gb393)) k_ ∧ some k_ ≠ (u387002 : Value).ownBlock) rfl rfl ?aP (fun _ hk => hk) ?aF ?aO ?aB ?aS ?aL ?_; (case aP => exact (k35_mkF _ _ (⟨t388, t389, t390⟩ : S35) (Kd.V_reads' (Kd.V_mono (ok' := (fun k_ => ((fun k_ => (P0_2_ k_ ∨ w.heap.size ≤ k_) ∧ k_ ≠ gb384 ∧ k_ ≠ gb385 ∧ k_ ≠ gb386 ∧ k_ ≠ gb393)) k_ ∧ some k_ ≠ (u387002 : Value).ownBlock)) (HO392.out) (fun k_ hk => ⟨⟨hk.1, ⟨hk.2.2.1, ⟨hk.2.2.2.1, ⟨hk.2.2.2.2.1, hk.2.2.2.2.2⟩⟩⟩⟩, hk.2.1⟩))).2.1 (Kd.V_F (Kd.V_mono (ok' := (fun k_ => ((fun k_ => (P0_2_ k_ ∨ w.heap.size ≤ k_) ∧ k_ ≠ gb384 ∧ k_ ≠ gb385 ∧ k_ ≠ gb386 ∧ k_ ≠ gb393)) k_ ∧ some k_ ≠ (u387002 : Value).ownBlock)) (HO392.out) (fun k_ hk => ⟨⟨hk.1, ⟨hk.2.2.1, ⟨hk.2.2.2.1, ⟨hk.2.2.2.2.1, hk.2.2.2.2.2⟩⟩⟩⟩, hk.2.1⟩))))); (case aB => exact (by repeat (first | (with_reducible first | exact HB.out | apply below_alloc | apply pw_below_drewN | apply below_drew1 | refine below_set ?_ GE384.out | refine below_set ?_ GE385.out | refine below_set ?_ GE386.out | refine below_set ?_ GE393.out) | exact HB.out))); (case aF => exact (fun k_ hk => ⟨(.inr (Nat.le_trans (below_size (by repeat (first | (with_reducible first | exact HB.out | apply below_alloc | apply pw_below_drewN | apply below_drew1 | refine below_set ?_ GE384.out | refine below_set ?_ GE385.out | refine below_set ?_ GE386.out | refine below_set ?_ GE393.out) | exact HB.out))) hk)), Kd.freshB (g := gb384) (o := .cells #[.int .i64 a0_0, .int .i64 a0_1, .slice (some ad387) l0_2.length c0_2] 35 (0, 0)) (by (with_reducible repeat (first | refine blk_drewN ?_ _ | refine blk_drew ?_ | refine blk_alloc ?_ _)); exact BK384.out) k_ hk, Kd.freshB (g := gb385) (o := .cells #[.int .i64 0, .int .i64 0, .slice none 0 0] 35 (0, 0)) (by (with_reducible repeat (first | refine blk_drewN ?_ _ | refine blk_drew ?_ | refine blk_alloc ?_ _)); exact BK385.out) k_ hk, Kd.freshB (g := gb386) (o := .cells #[.int .i64 a0_0, .int .i64 a0_1, u387002] 35 (0, 0)) (by (with_reducible repeat (first | refine blk_drewN ?_ _ | refine blk_drew ?_ | refine blk_alloc ?_ _)); exact BK386.out) k_ hk, Kd.freshB (g := gb393) (o := .cells #[.int .i64 t388, .int .i64 t389, .slice Ao31 t390.length co31] 35 (0, 0)) (by (with_reducible repeat (first | refine blk_drewN ?_ _ | refine blk_drew ?_ | refine blk_alloc ?_ _)); exact BK393.out) k_ hk⟩)); (case aO => exact (by (with_reducible repeat (first | apply Kd.N_alloc | apply Kd.N_drewN | apply Kd.N_drew)); exact HO_387002.out)); (case aS => exact (below_size (by repeat (first | (with_reducible first | exact HB.out | apply below_alloc | apply pw_below_drewN | apply below_drew1 | refine below_set ?_ GE384.out | refine below_set ?_ GE385.out | refine below_set ?_ GE386.out | refine below_set ?_ GE393.out) | exact HB.out)))); (case aL => have := LMc19.out; omega); intro v395 w36 ho hb hg hat; rw [← Ny394.out] at ho; have n0_ := Aside0.mk (Kd.V_afterv (ok := (fun k_ => (P0_2_ k_ ∨ w.heap.size ≤ k_) ∧ k_ ≠ gb384 ∧ k_ ≠ gb385 ∧ k_ ≠ gb386 ∧ k_ ≠ gb393)) (by (with_reducible repeat (first | apply Kd.V_alloc | apply Kd.V_drewN | apply Kd.V_drew)); exact Kd.V_mono HO_385002.out (fun _ hk => ⟨⟨hk.1, ⟨hk.2.2.1, ⟨hk.2.2.2.1, ⟨hk.2.2.2.2.1, hk.2.2.2.2.2⟩⟩⟩⟩, hk.2.1⟩)) hg hat); have n1_ := Aside0.mk (blk_grown (g := gb384) (o := .cells #[.int .i64 a0_0, .int .i64 a0_1, .slice (some ad387) l0_2.length c0_2] 35 (0, 0)) (by (with_reducible repeat (first | refine blk_drewN ?_ _ | refine blk_drew ?_ | refine blk_alloc ?_ _)); exact BK384.out) hg (Kd.N_away HO_387002.out (fun _ hk => hk.2.1))); have n2_ := Aside0.mk (blk_grown (g := gb385) (o := .cells #[.int .i64 0, .int .i64 0, .slice none 0 0] 35 (0, 0)) (by (with_reducible repeat (first | refine blk_drewN ?_ _ | refine blk_drew ?_ | refine blk_alloc ?_ _)); exact BK385.out) hg (Kd.N_away HO_387002.out (fun _ hk => hk.2.2.1))); have n3_ := Aside0.mk (blk_grown (g := gb386) (o := .cells #[.int .i64 a0_0, .int .i64 a0_1, u387002] 35 (0, 0)) (by (with_reducible repeat (first | refine blk_drewN ?_ _ | refine blk_drew ?_ | refine blk_alloc ?_ _)); exact BK386.out) hg (Kd.N_away HO_387002.out (fun _ hk => hk.2.2.2.1))); have n4_ := Aside0.mk (Kd.V_afterv (ok := (fun k_ => (P0_2_ k_ ∨ w.heap.size ≤ k_) ∧ k_ ≠ gb384 ∧ k_ ≠ gb385 ∧ k_ ≠ gb386 ∧ k_ ≠ gb393)) (by (with_reducible repeat (first | apply Kd.V_alloc | apply Kd.V_drewN | apply Kd.V_drew)); exact Kd.V_mono HL387_2.out (fun _ hk => ⟨⟨hk.1, ⟨hk.2.2.1, ⟨hk.2.2.2.1, ⟨hk.2.2.2.2.1, hk.2.2.2.2.2⟩⟩⟩⟩, hk.2.1⟩)) hg hat); have n5_ := Aside0.mk (Kd.V_afterv (ok := (fun k_ => (P0_2_ k_ ∨ w.heap.size ≤ k_) ∧ k_ ≠ gb384 ∧ k_ ≠ gb385 ∧ k_ ≠ gb386 ∧ k_ ≠ gb393)) (by (with_reducible repeat (first | apply Kd.V_alloc | apply Kd.V_drewN | apply Kd.V_drew)); exact Kd.V_mono HO392.out (fun _ hk => ⟨⟨hk.1, ⟨hk.2.2.1, ⟨hk.2.2.2.1, ⟨hk.2.2.2.2.1, hk.2.2.2.2.2⟩⟩⟩⟩, hk.2.1⟩)) hg hat); have n6_ := Aside0.mk (blk_grown (g := gb393) (o := .cells #[.int .i64 t388, .int .i64 t389, .slice Ao31 t390.length co31] 35 (0, 0)) (by (with_reducible repeat (first | refine blk_drewN ?_ _ | refine blk_drew ?_ | refine blk_alloc ?_ _)); exact BK393.out) hg (Kd.N_away HO_387002.out (fun _ hk => hk.2.2.2.2))); have n7_ := Aside0.mk (hb); have n8_ := Aside0.mk (ho); clear HO_385002; clear BK384; clear BK385; clear BK386; clear HL387_2; clear HO392; clear BK393; clear HB; clear HO_387002; have HO_385002 := n0_; have BK384 := n1_; have BK385 := n2_; have BK386 := n3_; have HL387_2 := n4_; have HO392 := n5_; have BK393 := n6_; have HB := n7_; have HO396 := n8_; clear n0_ n1_ n2_ n3_ n4_ n5_ n6_ n7_ n8_; clear ho hb hg hat; obtain ⟨Ao37, co37, eo37⟩ := Kd.N_slice HO396.out; subst eo37; have hcz38_0 : w36.cell? ⟨gb386, 0, none⟩ = some (.int .i64 a0_0) := (blk_cell BK386.out 0).trans rfl; have hcz38_1 : w36.cell? ⟨gb386, 1, none⟩ = some (.int .i64 a0_1) := (blk_cell BK386.out 1).trans rfl; have hcz38_2 : w36.cell? ⟨gb386, 2, none⟩ = some (u387002) := (blk_cell BK386.out 2).trans rfl; have hfz38_0 := blk_frozen BK386.out 0; have hfz38_1 := blk_frozen BK386.out 1; have hfz38_2 := blk_frozen BK386.out 2; have hcz39_0 : w36.cell? ⟨gb393, 0, none⟩ = some (.int .i64 t388) := (blk_cell BK393.out 0).trans rfl; have hcz39_1 : w36.cell? ⟨gb393, 1, none⟩ = some (.int .i64 t389) := (blk_cell BK393.out 1).trans rfl; have hcz39_2 : w36.cell? ⟨gb393, 2, none⟩ = some (.slice Ao31 t390.length co31) := (blk_cell BK393.out 2).trans rfl; have hfz39_0 := blk_frozen BK393.out 0; have hfz39_1 := blk_frozen BK393.out 1; have hfz39_2 := blk_frozen BK393.out 2) | (go_at_call 51; (with_reducible refine (headgateref21_Constant.calls t388 t389 _ _ t390 t397 _ ?side1 ?side2 A21.out).mono ?_); (case side1 => refine (Kd.V_reads' (e := 35) (base := w.heap.size) (ok := fun k_ => (((P0_2_ k_ ∨ w.heap.size ≤ k_) ∧ (k_ ≠ gb384 ∧ (k_ ≠ gb385 ∧ (k_ ≠ gb386 ∧ k_ ≠ gb393)))) ∧ some k_ ≠ (.slice Ao37 y394.length co37 : Value).ownBlock)) (n := t390.length) (c := co31) ?_).2.2; exact (by (with_reducible repeat (first | apply Kd.V_alloc | apply Kd.V_drewN | apply Kd.V_drew)); exact (Kd.V_mono (Kd.V_far (p := ⟨gb386, 2, none⟩) (Kd.V_mono HO392.out (fun k_ hk => (⟨hk, hk.1.2.2.2.1⟩ : _ ∧ k_ ≠ gb386))) (fun _ hk => hk.2) (.slice Ao37 y394.length co37)) (fun _ h_ => h_.1)))); (case side2 => exact (Kd.V_reads' HO392.out).2.1); rintro e w40 ⟨rfl, hb⟩; have n0_ := Aside0.mk (Kd.V_below (by (with_reducible repeat (first | apply Kd.V_alloc | apply Kd.V_drewN | apply Kd.V_drew)); exact (Kd.V_mono (Kd.V_far (p := ⟨gb386, 2, none⟩) (Kd.V_mono HO_385002.out (fun k_ hk => (⟨hk, hk.1.2.2.2.1⟩ : _ ∧ k_ ≠ gb386))) (fun _ hk => hk.2) (.slice Ao37 y394.length co37)) (fun _ h_ => h_.1))) hb); have n1_ := Aside0.mk (Kd.V_below (by (with_reducible repeat (first | apply Kd.V_alloc | apply Kd.V_drewN | apply Kd.V_drew)); exact (Kd.V_mono (Kd.V_far (p := ⟨gb386, 2, none⟩) (Kd.V_mono HL387_2.out (fun k_ hk => (⟨hk, hk.1.2.2.2.1⟩ : _ ∧ k_ ≠ gb386))) (fun _ hk => hk.2) (.slice Ao37 y394.length co37)) (fun _ h_ => h_.1))) hb); have n2_ := Aside0.mk (Kd.V_below (by (with_reducible repeat (first | apply Kd.V_alloc | apply Kd.V_drewN | apply Kd.V_drew)); exact (Kd.V_mono (Kd.V_far (p := ⟨gb386, 2, none⟩) (Kd.V_mono HO392.out (fun k_ hk => (⟨hk, hk.1.2.2.2.1⟩ : _ ∧ k_ ≠ gb386))) (fun _ hk => hk.2) (.slice Ao37 y394.length co37)) (fun _ h_ => h_.1))) hb); have n3_ := Aside0.mk (Kd.N_below (by (with_reducible repeat (first | apply Kd.N_alloc | apply Kd.N_drewN | apply Kd.N_drew)); exact (Kd.N_mono (Kd.N_far (p := ⟨gb386, 2, none⟩) (Kd.N_mono HO396.out (fun k_ hk => (⟨hk, hk.2.2.2.1⟩ : _ ∧ k_ ≠ gb386))) (fun _ hk => hk.2) (.slice Ao37 y394.length co37)) (fun _ h_ => h_.1))) hb); have n4_ := Aside0.mk (blk_below (g := gb384) (o := .cells #[.int .i64 a0_0, .int .i64 a0_1, .slice (some ad387) l0_2.length c0_2] 35 (0, 0)) (by (with_reducible repeat (first | refine blk_drewN ?_ _ | refine blk_drew ?_ | refine blk_alloc ?_ _)); refine blk_far ?_ NB384_386.out _; (with_reducible repeat (first | refine blk_drewN ?_ _ | refine blk_drew ?_ | refine blk_alloc ?_ _)); exact BK384.out) hb); have n5_ := Aside0.mk (blk_below (g := gb385) (o := .cells #[.int .i64 0, .int .i64 0, .slice none 0 0] 35 (0, 0)) (by (with_reducible repeat (first | refine blk_drewN ?_ _ | refine blk_drew ?_ | refine blk_alloc ?_ _)); refine blk_far ?_ NB385_386.out _; (with_reducible repeat (first | refine blk_drewN ?_ _ | refine blk_drew ?_ | refine blk_alloc ?_ _)); exact BK385.out) hb); have n6_ := Aside0.mk (blk_below (g := gb386) (o := .cells #[.int .i64 a0_0, .int .i64 a0_1, .slice Ao37 y394.length co37] 35 (0, 0)) (by (with_reducible repeat (first | refine blk_drewN ?_ _ | refine blk_drew ?_ | refine blk_alloc ?_ _)); refine blk_put (cs := #[.int .i64 a0_0, .int .i64 a0_1, u387002]) ?_ 2 _ rfl; (with_reducible repeat (first | refine blk_drewN ?_ _ | refine blk_drew ?_ | refine blk_alloc ?_ _)); exact BK386.out) hb); have n7_ := Aside0.mk (blk_below (g := gb393) (o := .cells #[.int .i64 t388, .int .i64 t389, .slice Ao31 t390.length co31] 35 (0, 0)) (by (with_reducible repeat (first | refine blk_drewN ?_ _ | refine blk_drew ?_ | refine blk_alloc ?_ _)); refine blk_far ?_ NB393_386.out _; (with_reducible repeat (first | refine blk_drewN ?_ _ | refine blk_drew ?_ | refine blk_alloc ?_ _)); exact BK393.out) hb); have n8_ := Aside0.mk (below_step (by repeat (first | (with_reducible first | exact HB.out | apply below_alloc | apply pw_below_drewN | apply below_drew1 | refine below_set ?_ GE384.out | refine below_set ?_ GE385.out | refine below_set ?_ GE386.out | refine below_set ?_ GE393.out) | exact HB.out)) hb); clear HO_385002; clear HL387_2; clear HO392; clear HO396; clear BK384; clear BK385; clear BK386; clear BK393; clear HB; have HO_385002 := n0_; have HL387_2 := n1_; have HO392 := n2_; have HO396 := n3_; have BK384 := n4_; have BK385 := n5_; have BK386 := n6_; have BK393 := n7_; have HB := n8_; clear n0_ n1_ n2_ n3_ n4_ n5_ n6_ n7_ n8_; (try clear hb); (try clear hb2); (try clear hk); (try clear hi)))
                go_roundg k1
                case measure => have := HK1.out; omega
                case rel => exact ⟨(t397), (wrap64 (x5_1 + 1)), (y394), (.slice Ao37 y394.length co37), (by first | rfl | (simp; done) | (simp [*]; done)), (by first | rfl | (simp; done) | (simp [*]; done)), H', ⟨by have := HK1.out; omega⟩, ⟨by (with_reducible repeat (first | apply Kd.V_alloc | apply Kd.V_drewN | apply Kd.V_drew)); exact Kd.V_mono HO_385002.out (fun _ hk => ⟨hk.1.1, ⟨hk.2, ⟨hk.1.2.1, ⟨hk.1.2.2.1, hk.1.2.2.2.1⟩⟩⟩⟩)⟩, ⟨by (with_reducible repeat (first | apply Kd.N_alloc | apply Kd.N_drewN | apply Kd.N_drew)); exact Kd.N_mono HO396.out (fun _ hk => ⟨hk.1, ⟨hk.2.1, ⟨hk.2.2.1, hk.2.2.2.1⟩⟩⟩)⟩, ⟨by (with_reducible repeat (first | refine blk_drewN ?_ _ | refine blk_drew ?_ | refine blk_alloc ?_ _)); exact BK384.out⟩, ⟨by (with_reducible repeat (first | refine blk_drewN ?_ _ | refine blk_drew ?_ | refine blk_alloc ?_ _)); exact BK385.out⟩, ⟨by (with_reducible repeat (first | refine blk_drewN ?_ _ | refine blk_drew ?_ | refine blk_alloc ?_ _)); exact BK386.out⟩, ⟨by repeat (first | (with_reducible first | exact HB.out | apply below_alloc | apply pw_below_drewN | apply below_drew1 | refine below_set ?_ GE384.out | refine below_set ?_ GE385.out | refine below_set ?_ GE386.out | refine below_set ?_ GE393.out) | exact HB.out)⟩⟩
              · replace c20 := Bool.eq_false_iff.mpr c20
                subst c20
                have H1 : (headgateref21_reckon.l0 k1 false (wrap64 (x5_1 + 1)) a0_0 a0_1 l0_2 a0_0 a0_1 y394) = some (r1, r2, r3) := by rw [if_neg (show ¬ (false = true) by decide)] at H; exact H
                clear H
                have H := H1
                clear H1
                have H' := Aside0.mk H
                clear H
                have hnb41 := NB384_385.out
                have hnc41 := NB385_384.out
                have hnb42 := NB384_386.out
                have hnc42 := NB386_384.out
                have hcz43_0 : wr.cell? ⟨gb384, 0, none⟩ = some (.int .i64 a0_0) := (blk_cell BK384.out 0).trans rfl
                have hcz43_1 : wr.cell? ⟨gb384, 1, none⟩ = some (.int .i64 a0_1) := (blk_cell BK384.out 1).trans rfl
                have hcz43_2 : wr.cell? ⟨gb384, 2, none⟩ = some (.slice A0_2 l0_2.length c0_2) := (blk_cell BK384.out 2).trans rfl
                have hfz43_0 := blk_frozen BK384.out 0
                have hfz43_1 := blk_frozen BK384.out 1
                have hfz43_2 := blk_frozen BK384.out 2
                have p387 : 0 ≤ (x5_1 : Int) := of_decide_eq_true (by first | (with_reducible assumption) | assumption)
                have q387 : x5_1 < (l0_2.length : Int) := of_decide_eq_true (by first | (with_reducible assumption) | assumption)
                obtain ⟨ad387, A387_2, c387_2, e387, hx387_0, hx387_1, hx387_2, hl387_2, hi387_2⟩ := at_T35 (Kd.V_reads' HO_385002.out).2.2 x5_1 p387 q387
                cases e387
                obtain ⟨ce387, hce387, hMe387, hcc387⟩ := Kd.V_get HO_385002.out z35 x5_1 p387 (by first | exact q387 | exact of_decide_eq_true (by first | (with_reducible assumption) | assumption) | (have e_ := (Kd.V_reads' HO_385002.out).1; omega))
                obtain ⟨ua387_2, uc387_2, rfl, ul387_2, ge387_2⟩ := k35_openF hMe387
                have hv387_2 := hcc387 2 _ rfl
                rw [add_field _ _ 2 (by omega)] at hv387_2
                replace hv387_2 := Option.some.inj (hv387_2.symm.trans hx387_2)
                injection hv387_2 with hva_ hvn_ hvc_
                rw [hva_] at ge387_2
                rw [hvc_] at ul387_2
                have HL387_2 := Aside0.mk (show Kd.V k35 35 _ w.heap.size _ _ ((rd_T35 l0_2 x5_1).f2) from Kd.V_mk ul387_2 ge387_2)
                clear hva_ hvn_ hvc_ ge387_2 ul387_2
                clear hcc387 hce387
                have HR387_2 := Aside0.mk hi387_2
                have HC387_2 := Aside0.mk hl387_2
                clear hi387_2 hl387_2
                replace p387 := eq_true p387
                replace q387 := eq_true q387
                go_wp2_with (first | ((with_reducible refine gate_callee (f := 37) rfl ?_); refine goesL_ (some 30) rfl rfl Try.func37 (by kernel_rfl) rfl #[.agg #[.int .i64 ((rd_T35 l0_2 x5_1).f0), .int .i64 ((rd_T35 l0_2 x5_1).f1), .slice A387_2 ((rd_T35 l0_2 x5_1).f2).length c387_2]] rfl (by (try simp only [List.map_toArray, List.map_cons, List.map_nil]); first | done | rfl | (simp only [List.length_drop, List.length_take]; rfl)) ?_; (with_reducible refine (ih k1 (by have := HK1.out; omega) ((rd_T35 l0_2 x5_1).f0) ((rd_T35 l0_2 x5_1).f1) (fun k_ => ((P0_2_ k_ ∨ w.heap.size ≤ k_) ∧ (some k_ ≠ (u387002 : Value).ownBlock ∧ (k_ ≠ gb384 ∧ (k_ ≠ gb385 ∧ k_ ≠ gb386))))) _ _ ((rd_T35 l0_2 x5_1).f2) t388 t389 t390 _ ?side1 A18.out).mono ?_); (case side1 => exact HL387_2.out); rintro e w44 ⟨v391, rfl, ho0, hb⟩; refine ⟨_, rfl, ?_⟩; have n0_ := Aside0.mk (Kd.V_below (by (with_reducible repeat (first | apply Kd.V_alloc | apply Kd.V_drewN | apply Kd.V_drew)); exact HO_385002.out) hb); have n1_ := Aside0.mk (Kd.N_below (by (with_reducible repeat (first | apply Kd.N_alloc | apply Kd.N_drewN | apply Kd.N_drew)); exact HO_387002.out) hb); have n2_ := Aside0.mk (Kd.V_below (by (with_reducible repeat (first | apply Kd.V_alloc | apply Kd.V_drewN | apply Kd.V_drew)); exact HL387_2.out) hb); have n3_ := Aside0.mk (Kd.V_lower (Kd.V_mono (ok' := fun k_ => (P0_2_ k_ ∨ w.heap.size ≤ k_) ∧ some k_ ≠ (u387002 : Value).ownBlock ∧ k_ ≠ gb384 ∧ k_ ≠ gb385 ∧ k_ ≠ gb386) ho0 (fun k_ hk_ => ⟨Or.elim hk_ (fun hs_ => hs_.1) (fun hn_ => (.inr (Nat.le_trans (below_size (by repeat (first | (with_reducible first | exact HB.out | apply below_alloc | apply pw_below_drewN | apply below_drew1 | refine below_set ?_ GE384.out | refine below_set ?_ GE385.out | refine below_set ?_ GE386.out) | exact HB.out))) hn_))), Or.elim hk_ (fun hs_ => hs_.2.1) (fun hn_ => (Kd.fresh' (Kd.N_lt (by (with_reducible repeat (first | apply Kd.N_alloc | apply Kd.N_drewN | apply Kd.N_drew)); exact HO_387002.out)) k_ hn_)), Or.elim hk_ (fun hs_ => hs_.2.2.1) (fun hn_ => (Kd.freshB (g := gb384) (o := .cells #[.int .i64 a0_0, .int .i64 a0_1, .slice (some ad387) l0_2.length c0_2] 35 (0, 0)) (by (with_reducible repeat (first | refine blk_drewN ?_ _ | refine blk_drew ?_ | refine blk_alloc ?_ _)); exact BK384.out) k_ hn_)), Or.elim hk_ (fun hs_ => hs_.2.2.2.1) (fun hn_ => (Kd.freshB (g := gb385) (o := .cells #[.int .i64 0, .int .i64 0, .slice none 0 0] 35 (0, 0)) (by (with_reducible repeat (first | refine blk_drewN ?_ _ | refine blk_drew ?_ | refine blk_alloc ?_ _)); exact BK385.out) k_ hn_)), Or.elim hk_ (fun hs_ => hs_.2.2.2.2) (fun hn_ => (Kd.freshB (g := gb386) (o := .cells #[.int .i64 a0_0, .int .i64 a0_1, u387002] 35 (0, 0)) (by (with_reducible repeat (first | refine blk_drewN ?_ _ | refine blk_drew ?_ | refine blk_alloc ?_ _)); exact BK386.out) k_ hn_))⟩)) (below_size (by repeat (first | (with_reducible first | exact HB.out | apply below_alloc | apply pw_below_drewN | apply below_drew1 | refine below_set ?_ GE384.out | refine below_set ?_ GE385.out | refine below_set ?_ GE386.out) | exact HB.out)))); have n4_ := Aside0.mk (blk_below (g := gb384) (o := .cells #[.int .i64 a0_0, .int .i64 a0_1, .slice (some ad387) l0_2.length c0_2] 35 (0, 0)) (by (with_reducible repeat (first | refine blk_drewN ?_ _ | refine blk_drew ?_ | refine blk_alloc ?_ _)); exact BK384.out) hb); have n5_ := Aside0.mk (blk_below (g := gb385) (o := .cells #[.int .i64 0, .int .i64 0, .slice none 0 0] 35 (0, 0)) (by (with_reducible repeat (first | refine blk_drewN ?_ _ | refine blk_drew ?_ | refine blk_alloc ?_ _)); exact BK385.out) hb); have n6_ := Aside0.mk (blk_below (g := gb386) (o := .cells #[.int .i64 a0_0, .int .i64 a0_1, u387002] 35 (0, 0)) (by (with_reducible repeat (first | refine blk_drewN ?_ _ | refine blk_drew ?_ | refine blk_alloc ?_ _)); exact BK386.out) hb); have n7_ := Aside0.mk (Kd.C_below (by repeat (first | (with_reducible exact HR387_2.out) | (with_reducible refine Kd.C_alloc ?_ _) | (with_reducible refine Kd.C_drewN ?_ _) | (with_reducible refine Kd.C_drew ?_) | exact HR387_2.out)) hb); have n8_ := Aside0.mk (below_step (by repeat (first | (with_reducible first | exact HB.out | apply below_alloc | apply pw_below_drewN | apply below_drew1 | refine below_set ?_ GE384.out | refine below_set ?_ GE385.out | refine below_set ?_ GE386.out) | exact HB.out)) hb); clear HO_385002; clear HO_387002; clear HL387_2; clear BK384; clear BK385; clear BK386; clear HR387_2; clear HB; have HO_385002 := n0_; have HO_387002 := n1_; have HL387_2 := n2_; have HO392 := n3_; have BK384 := n4_; have BK385 := n5_; have BK386 := n6_; have HR387_2 := n7_; have HB := n8_; clear n0_ n1_ n2_ n3_ n4_ n5_ n6_ n7_ n8_; (try clear hb); (try clear hb2); (try clear hk); (try clear hi); (try clear ho0)) | ((with_reducible refine gate_dst (N := 6) rfl ?_); refine box_event ?hg (N := 6) ?hd (cs := #[.int .i64 0, .int .i64 0, .slice none 0 0]) (t := 35) ?hr ?_; (case hd => rfl); (case hg => rfl); (case hr => first | (go_simp; done) | (go_simp; rfl)); intro gb393 hg w45 hbox hb; have n0_ := Aside0.mk (Kd.V_below (Kd.V_elderB (by (with_reducible repeat (first | apply Kd.V_alloc | apply Kd.V_drewN | apply Kd.V_drew)); exact HO_385002.out) gb393 (Nat.le_of_eq hg.symm)) hb); have n1_ := Aside0.mk (Kd.N_below (Kd.N_elderB (by (with_reducible repeat (first | apply Kd.N_alloc | apply Kd.N_drewN | apply Kd.N_drew)); exact HO_387002.out) gb393 (Nat.le_of_eq hg.symm)) hb); have n2_ := Aside0.mk (Kd.V_below (Kd.V_elderB (by (with_reducible repeat (first | apply Kd.V_alloc | apply Kd.V_drewN | apply Kd.V_drew)); exact HL387_2.out) gb393 (Nat.le_of_eq hg.symm)) hb); have n3_ := Aside0.mk (Kd.V_below (Kd.V_elderB (by (with_reducible repeat (first | apply Kd.V_alloc | apply Kd.V_drewN | apply Kd.V_drew)); exact HO392.out) gb393 (Nat.le_of_eq hg.symm)) hb); have n4_ := Aside0.mk (blk_below (g := gb384) (o := .cells #[.int .i64 a0_0, .int .i64 a0_1, .slice (some ad387) l0_2.length c0_2] 35 (0, 0)) (by (with_reducible repeat (first | refine blk_drewN ?_ _ | refine blk_drew ?_ | refine blk_alloc ?_ _)); exact BK384.out) hb); have n5_ := Aside0.mk (blk_below (g := gb385) (o := .cells #[.int .i64 0, .int .i64 0, .slice none 0 0] 35 (0, 0)) (by (with_reducible repeat (first | refine blk_drewN ?_ _ | refine blk_drew ?_ | refine blk_alloc ?_ _)); exact BK385.out) hb); have n6_ := Aside0.mk (blk_below (g := gb386) (o := .cells #[.int .i64 a0_0, .int .i64 a0_1, u387002] 35 (0, 0)) (by (with_reducible repeat (first | refine blk_drewN ?_ _ | refine blk_drew ?_ | refine blk_alloc ?_ _)); exact BK386.out) hb); have n7_ := Aside0.mk (Kd.C_below (by repeat (first | (with_reducible exact HR387_2.out) | (with_reducible refine Kd.C_alloc ?_ _) | (with_reducible refine Kd.C_drewN ?_ _) | (with_reducible refine Kd.C_drew ?_) | exact HR387_2.out)) hb); have n8_ := Aside0.mk (below_step (by repeat (first | (with_reducible first | exact HB.out | apply below_alloc | apply pw_below_drewN | apply below_drew1 | refine below_set ?_ GE384.out | refine below_set ?_ GE385.out | refine below_set ?_ GE386.out) | exact HB.out)) hb); have n9_ := Aside0.mk (hbox); have n10_ := Aside0.mk ((by rw [hg]; exact (below_size (by repeat (first | (with_reducible first | exact HB.out | apply below_alloc | apply pw_below_drewN | apply below_drew1 | refine below_set ?_ GE384.out | refine below_set ?_ GE385.out | refine below_set ?_ GE386.out) | exact HB.out))) : w.heap.size ≤ gb393)); have n11_ := Aside0.mk ((by rw [hg]; exact (below_size (by repeat (first | (with_reducible first | exact HB.out | apply below_alloc | apply pw_below_drewN | apply below_drew1 | refine below_set ?_ GE384.out | refine below_set ?_ GE385.out | refine below_set ?_ GE386.out) | exact HB.out))) : w.heap.size ≤ gb393)); have n12_ := Aside0.mk ((by rw [hg]; exact Nat.ne_of_lt (blk_lt (g := gb384) (o := .cells #[.int .i64 a0_0, .int .i64 a0_1, .slice (some ad387) l0_2.length c0_2] 35 (0, 0)) (by (with_reducible repeat (first | refine blk_drewN ?_ _ | refine blk_drew ?_ | refine blk_alloc ?_ _)); exact BK384.out)) : gb384 ≠ gb393)); have n13_ := Aside0.mk ((by rw [hg]; exact Nat.ne_of_gt (blk_lt (g := gb384) (o := .cells #[.int .i64 a0_0, .int .i64 a0_1, .slice (some ad387) l0_2.length c0_2] 35 (0, 0)) (by (with_reducible repeat (first | refine blk_drewN ?_ _ | refine blk_drew ?_ | refine blk_alloc ?_ _)); exact BK384.out)) : gb393 ≠ gb384)); have n14_ := Aside0.mk ((by rw [hg]; exact Nat.ne_of_lt (blk_lt (g := gb385) (o := .cells #[.int .i64 0, .int .i64 0, .slice none 0 0] 35 (0, 0)) (by (with_reducible repeat (first | refine blk_drewN ?_ _ | refine blk_drew ?_ | refine blk_alloc ?_ _)); exact BK385.out)) : gb385 ≠ gb393)); have n15_ := Aside0.mk ((by rw [hg]; exact Nat.ne_of_gt (blk_lt (g := gb385) (o := .cells #[.int .i64 0, .int .i64 0, .slice none 0 0] 35 (0, 0)) (by (with_reducible repeat (first | refine blk_drewN ?_ _ | refine blk_drew ?_ | refine blk_alloc ?_ _)); exact BK385.out)) : gb393 ≠ gb385)); have n16_ := Aside0.mk ((by rw [hg]; exact Nat.ne_of_lt (blk_lt (g := gb386) (o := .cells #[.int .i64 a0_0, .int .i64 a0_1, u387002] 35 (0, 0)) (by (with_reducible repeat (first | refine blk_drewN ?_ _ | refine blk_drew ?_ | refine blk_alloc ?_ _)); exact BK386.out)) : gb386 ≠ gb393)); have n17_ := Aside0.mk ((by rw [hg]; exact Nat.ne_of_gt (blk_lt (g := gb386) (o := .cells #[.int .i64 a0_0, .int .i64 a0_1, u387002] 35 (0, 0)) (by (with_reducible repeat (first | refine blk_drewN ?_ _ | refine blk_drew ?_ | refine blk_alloc ?_ _)); exact BK386.out)) : gb393 ≠ gb386)); clear HO_385002; clear HO_387002; clear HL387_2; clear HO392; clear BK384; clear BK385; clear BK386; clear HR387_2; clear HB; have HO_385002 := n0_; have HO_387002 := n1_; have HL387_2 := n2_; have HO392 := n3_; have BK384 := n4_; have BK385 := n5_; have BK386 := n6_; have HR387_2 := n7_; have HB := n8_; have BK393 := n9_; have GW393 := n10_; have GE393 := n11_; have NB384_393 := n12_; have NB393_384 := n13_; have NB385_393 := n14_; have NB393_385 := n15_; have NB386_393 := n16_; have NB393_386 := n17_; clear n0_ n1_ n2_ n3_ n4_ n5_ n6_ n7_ n8_ n9_ n10_ n11_ n12_ n13_ n14_ n15_ n16_ n17_; clear hb hbox hg; have hnb46 := NB393_384.out; have hnc46 := NB384_393.out; have hnb47 := NB393_385.out; have hnc47 := NB385_393.out; have hnb48 := NB393_386.out; have hnc48 := NB386_393.out; have hcz49_0 : w45.cell? ⟨gb393, 0, none⟩ = some (.int .i64 0) := (blk_cell BK393.out 0).trans rfl; have hcz49_1 : w45.cell? ⟨gb393, 1, none⟩ = some (.int .i64 0) := (blk_cell BK393.out 1).trans rfl; have hcz49_2 : w45.cell? ⟨gb393, 2, none⟩ = some (.slice none 0 0) := (blk_cell BK393.out 2).trans rfl; have hfz49_0 := blk_frozen BK393.out 0; have hfz49_1 := blk_frozen BK393.out 1; have hfz49_2 := blk_frozen BK393.out 2; obtain ⟨Ao50, co50, eo50⟩ := Kd.V_slice HO392.out; subst eo50) | ((with_reducible refine gate_store (t := 35) (p := 6) rfl ?_); refine store_event (t := 35) (p := 6) (v := ?vo_w51) (w1 := (((w45.setCell ⟨gb393, 0, none⟩ (.int .i64 t388)).setCell ⟨gb393, 1, none⟩ (.int .i64 t389)).setCell ⟨gb393, 2, none⟩ (.slice Ao50 t390.length co50))) ?hg ?ho ?hn ?hr ?_; (case ho => rfl); (case hg => rfl); (case hn => rfl); (case hr => first | (go_simp; done) | (go_simp; rfl)); intro w51 hw; have n0_ : Aside0 (Kd.V k35 35 w51 w.heap.size (fun k_ => (P0_2_ k_ ∨ w.heap.size ≤ k_) ∧ some k_ ≠ (u387002 : Value).ownBlock ∧ k_ ≠ gb384 ∧ k_ ≠ gb385 ∧ k_ ≠ gb386 ∧ k_ ≠ gb393) (.slice (some ad387) l0_2.length c0_2) l0_2) := ⟨(by rw [hw]; exact (by (with_reducible repeat (first | apply Kd.V_alloc | apply Kd.V_drewN | apply Kd.V_drew)); exact Kd.V_mono (Kd.V_far (p := ⟨gb393, 2, none⟩) (Kd.V_far (p := ⟨gb393, 1, none⟩) (Kd.V_far (p := ⟨gb393, 0, none⟩) (Kd.V_mono HO_385002.out (fun k_ hk => (⟨hk, hk.2⟩ : _ ∧ k_ ≠ gb393))) (fun _ hk => hk.2) (.int .i64 t388)) (fun _ hk => hk.2) (.int .i64 t389)) (fun _ hk => hk.2) (.slice Ao50 t390.length co50)) (fun _ hk => ⟨hk.1.1.1, ⟨hk.1.1.2.1, ⟨hk.1.1.2.2.1, ⟨hk.1.1.2.2.2.1, ⟨hk.1.1.2.2.2.2, hk.1.2⟩⟩⟩⟩⟩)))⟩; have n1_ : Aside0 (Kd.N k35 35 w51 w.heap.size (fun k_ => (P0_2_ k_ ∨ w.heap.size ≤ k_) ∧ k_ ≠ gb384 ∧ k_ ≠ gb385 ∧ k_ ≠ gb386 ∧ k_ ≠ gb393) u387002 x387002_1) := ⟨(by rw [hw]; exact (by (with_reducible repeat (first | apply Kd.N_alloc | apply Kd.N_drewN | apply Kd.N_drew)); exact Kd.N_mono (Kd.N_far (p := ⟨gb393, 2, none⟩) (Kd.N_far (p := ⟨gb393, 1, none⟩) (Kd.N_far (p := ⟨gb393, 0, none⟩) (Kd.N_mono HO_387002.out (fun k_ hk => (⟨hk, hk.2⟩ : _ ∧ k_ ≠ gb393))) (fun _ hk => hk.2) (.int .i64 t388)) (fun _ hk => hk.2) (.int .i64 t389)) (fun _ hk => hk.2) (.slice Ao50 t390.length co50)) (fun _ hk => ⟨hk.1.1.1, ⟨hk.1.1.2.1, ⟨hk.1.1.2.2.1, ⟨hk.1.1.2.2.2, hk.1.2⟩⟩⟩⟩)))⟩; have n2_ : Aside0 (Kd.V k35 35 w51 w.heap.size (fun k_ => (P0_2_ k_ ∨ w.heap.size ≤ k_) ∧ some k_ ≠ (u387002 : Value).ownBlock ∧ k_ ≠ gb384 ∧ k_ ≠ gb385 ∧ k_ ≠ gb386 ∧ k_ ≠ gb393) (.slice A387_2 ((rd_T35 l0_2 x5_1).f2).length c387_2) ((rd_T35 l0_2 x5_1).f2)) := ⟨(by rw [hw]; exact (by (with_reducible repeat (first | apply Kd.V_alloc | apply Kd.V_drewN | apply Kd.V_drew)); exact Kd.V_mono (Kd.V_far (p := ⟨gb393, 2, none⟩) (Kd.V_far (p := ⟨gb393, 1, none⟩) (Kd.V_far (p := ⟨gb393, 0, none⟩) (Kd.V_mono HL387_2.out (fun k_ hk => (⟨hk, hk.2⟩ : _ ∧ k_ ≠ gb393))) (fun _ hk => hk.2) (.int .i64 t388)) (fun _ hk => hk.2) (.int .i64 t389)) (fun _ hk => hk.2) (.slice Ao50 t390.length co50)) (fun _ hk => ⟨hk.1.1.1, ⟨hk.1.1.2.1, ⟨hk.1.1.2.2.1, ⟨hk.1.1.2.2.2.1, ⟨hk.1.1.2.2.2.2, hk.1.2⟩⟩⟩⟩⟩)))⟩; have n3_ : Aside0 (Kd.V k35 35 w51 w.heap.size (fun k_ => (P0_2_ k_ ∨ w.heap.size ≤ k_) ∧ some k_ ≠ (u387002 : Value).ownBlock ∧ k_ ≠ gb384 ∧ k_ ≠ gb385 ∧ k_ ≠ gb386 ∧ k_ ≠ gb393) (.slice Ao50 t390.length co50) t390) := ⟨(by rw [hw]; exact (by (with_reducible repeat (first | apply Kd.V_alloc | apply Kd.V_drewN | apply Kd.V_drew)); exact Kd.V_mono (Kd.V_far (p := ⟨gb393, 2, none⟩) (Kd.V_far (p := ⟨gb393, 1, none⟩) (Kd.V_far (p := ⟨gb393, 0, none⟩) (Kd.V_mono HO392.out (fun k_ hk => (⟨hk, hk.2⟩ : _ ∧ k_ ≠ gb393))) (fun _ hk => hk.2) (.int .i64 t388)) (fun _ hk => hk.2) (.int .i64 t389)) (fun _ hk => hk.2) (.slice Ao50 t390.length co50)) (fun _ hk => ⟨hk.1.1.1, ⟨hk.1.1.2.1, ⟨hk.1.1.2.2.1, ⟨hk.1.1.2.2.2.1, ⟨hk.1.1.2.2.2.2, hk.1.2⟩⟩⟩⟩⟩)))⟩; have n4_ : Aside0 (w51.heap[gb384]? = some (.cells #[.int .i64 a0_0, .int .i64 a0_1, .slice (some ad387) l0_2.length c0_2] 35 (0, 0))) := ⟨(by rw [hw]; exact (by (with_reducible repeat (first | refine blk_drewN ?_ _ | refine blk_drew ?_ | refine blk_alloc ?_ _)); refine blk_far ?_ NB384_393.out _; (with_reducible repeat (first | refine blk_drewN ?_ _ | refine blk_drew ?_ | refine blk_alloc ?_ _)); refine blk_far ?_ NB384_393.out _; (with_reducible repeat (first | refine blk_drewN ?_ _ | refine blk_drew ?_ | refine blk_alloc ?_ _)); refine blk_far ?_ NB384_393.out _; (with_reducible repeat (first | refine blk_drewN ?_ _ | refine blk_drew ?_ | refine blk_alloc ?_ _)); exact BK384.out))⟩; have n5_ : Aside0 (w51.heap[gb385]? = some (.cells #[.int .i64 0, .int .i64 0, .slice none 0 0] 35 (0, 0))) := ⟨(by rw [hw]; exact (by (with_reducible repeat (first | refine blk_drewN ?_ _ | refine blk_drew ?_ | refine blk_alloc ?_ _)); refine blk_far ?_ NB385_393.out _; (with_reducible repeat (first | refine blk_drewN ?_ _ | refine blk_drew ?_ | refine blk_alloc ?_ _)); refine blk_far ?_ NB385_393.out _; (with_reducible repeat (first | refine blk_drewN ?_ _ | refine blk_drew ?_ | refine blk_alloc ?_ _)); refine blk_far ?_ NB385_393.out _; (with_reducible repeat (first | refine blk_drewN ?_ _ | refine blk_drew ?_ | refine blk_alloc ?_ _)); exact BK385.out))⟩; have n6_ : Aside0 (w51.heap[gb386]? = some (.cells #[.int .i64 a0_0, .int .i64 a0_1, u387002] 35 (0, 0))) := ⟨(by rw [hw]; exact (by (with_reducible repeat (first | refine blk_drewN ?_ _ | refine blk_drew ?_ | refine blk_alloc ?_ _)); refine blk_far ?_ NB386_393.out _; (with_reducible repeat (first | refine blk_drewN ?_ _ | refine blk_drew ?_ | refine blk_alloc ?_ _)); refine blk_far ?_ NB386_393.out _; (with_reducible repeat (first | refine blk_drewN ?_ _ | refine blk_drew ?_ | refine blk_alloc ?_ _)); refine blk_far ?_ NB386_393.out _; (with_reducible repeat (first | refine blk_drewN ?_ _ | refine blk_drew ?_ | refine blk_alloc ?_ _)); exact BK386.out))⟩; have n7_ : Aside0 (w51.heap[gb393]? = some (.cells #[.int .i64 t388, .int .i64 t389, .slice Ao50 t390.length co50] 35 (0, 0))) := ⟨(by rw [hw]; exact (by (with_reducible repeat (first | refine blk_drewN ?_ _ | refine blk_drew ?_ | refine blk_alloc ?_ _)); refine blk_put (cs := #[.int .i64 t388, .int .i64 t389, .slice none 0 0]) ?_ 2 _ rfl; (with_reducible repeat (first | refine blk_drewN ?_ _ | refine blk_drew ?_ | refine blk_alloc ?_ _)); refine blk_put (cs := #[.int .i64 t388, .int .i64 0, .slice none 0 0]) ?_ 1 _ rfl; (with_reducible repeat (first | refine blk_drewN ?_ _ | refine blk_drew ?_ | refine blk_alloc ?_ _)); refine blk_put (cs := #[.int .i64 0, .int .i64 0, .slice none 0 0]) ?_ 0 _ rfl; (with_reducible repeat (first | refine blk_drewN ?_ _ | refine blk_drew ?_ | refine blk_alloc ?_ _)); exact BK393.out))⟩; have n8_ : Aside0 (Below w.heap.size w w51) := ⟨(by rw [hw]; exact (by repeat (first | (with_reducible first | exact HB.out | apply below_alloc | apply pw_below_drewN | apply below_drew1 | refine below_set ?_ GE384.out | refine below_set ?_ GE385.out | refine below_set ?_ GE386.out | refine below_set ?_ GE393.out) | exact HB.out)))⟩; clear hw; clear HO_385002; clear HO_387002; clear HL387_2; clear HO392; clear BK384; clear BK385; clear BK386; clear BK393; clear HB; have HO_385002 := n0_; have HO_387002 := n1_; have HL387_2 := n2_; have HO392 := n3_; have BK384 := n4_; have BK385 := n5_; have BK386 := n6_; have BK393 := n7_; have HB := n8_; clear n0_ n1_ n2_ n3_ n4_ n5_ n6_ n7_ n8_; have hnb52 := NB386_385.out; have hnc52 := NB385_386.out; have hcz53_0 : w51.cell? ⟨gb386, 0, none⟩ = some (.int .i64 a0_0) := (blk_cell BK386.out 0).trans rfl; have hcz53_1 : w51.cell? ⟨gb386, 1, none⟩ = some (.int .i64 a0_1) := (blk_cell BK386.out 1).trans rfl; have hcz53_2 : w51.cell? ⟨gb386, 2, none⟩ = some (u387002) := (blk_cell BK386.out 2).trans rfl; have hfz53_0 := blk_frozen BK386.out 0; have hfz53_1 := blk_frozen BK386.out 1; have hfz53_2 := blk_frozen BK386.out 2; have hcz54_0 : w51.cell? ⟨gb393, 0, none⟩ = some (.int .i64 t388) := (blk_cell BK393.out 0).trans rfl; have hcz54_1 : w51.cell? ⟨gb393, 1, none⟩ = some (.int .i64 t389) := (blk_cell BK393.out 1).trans rfl; have hcz54_2 : w51.cell? ⟨gb393, 2, none⟩ = some (.slice Ao50 t390.length co50) := (blk_cell BK393.out 2).trans rfl; have hfz54_0 := blk_frozen BK393.out 0; have hfz54_1 := blk_frozen BK393.out 1; have hfz54_2 := blk_frozen BK393.out 2) | ((with_reducible refine gate_builtin (b := .append) (xs := #[.tmp 32, .tmp 34]) rfl ?_); at_builtin; refine Kd.N_append k35 (w0 := w) w.heap.size rfl (.tmp 32) (.tmp 34) 33 35 (.agg #[(.int .i64 0), (.int .i64 0), (.slice none 0 0)]) 40 rfl Try.underlying33 info35 rfl (by decide) (by omega) u387002 x387002_1 (⟨t388, t389, t390⟩ : S35) [.int .i64 t388, .int .i64 t389, .slice Ao50 t390.length co50] (fun k_ => (P0_2_ k_ ∨ w.heap.size ≤ k_) ∧ k_ ≠ gb384 ∧ k_ ≠ gb385 ∧ k_ ≠ gb386 ∧ k_ ≠ gb393) (fun k_ => ((fun k_ => (P0_2_ k_ ∨ w.heap.size ≤ k_) ∧ k_ ≠ gb384 ∧ k_ ≠ gb385 ∧ k_ ≠ gb386 ∧ k_ ≠ gb393)) k_ ∧ some k_ ≠ (u387002 : Value).ownBlock) rfl rfl ?aP (fun _ hk => hk) ?aF ?aO ?aB ?aS ?aL ?_; (case aP => exact (k35_mkF _ _ (⟨t388, t389, t390⟩ : S35) (Kd.V_reads' (Kd.V_mono (ok' := (fun k_ => ((fun k_ => (P0_2_ k_ ∨ w.heap.size ≤ k_) ∧ k_ ≠ gb384 ∧ k_ ≠ gb385 ∧ k_ ≠ gb386 ∧ k_ ≠ gb393)) k_ ∧ some k_ ≠ (u387002 : Value).ownBlock)) (HO392.out) (fun k_ hk => ⟨⟨hk.1, ⟨hk.2.2.1, ⟨hk.2.2.2.1, ⟨hk.2.2.2.2.1, hk.2.2.2.2.2⟩⟩⟩⟩, hk.2.1⟩))).2.1 (Kd.V_F (Kd.V_mono (ok' := (fun k_ => ((fun k_ => (P0_2_ k_ ∨ w.heap.size ≤ k_) ∧ k_ ≠ gb384 ∧ k_ ≠ gb385 ∧ k_ ≠ gb386 ∧ k_ ≠ gb393)) k_ ∧ some k_ ≠ (u387002 : Value).ownBlock)) (HO392.out) (fun k_ hk => ⟨⟨hk.1, ⟨hk.2.2.1, ⟨hk.2.2.2.1, ⟨hk.2.2.2.2.1, hk.2.2.2.2.2⟩⟩⟩⟩, hk.2.1⟩))))); (case aB => exact (by repeat (first | (with_reducible first | exact HB.out | apply below_alloc | apply pw_below_drewN | apply below_drew1 | refine below_set ?_ GE384.out | refine below_set ?_ GE385.out | refine below_set ?_ GE386.out | refine below_set ?_ GE393.out) | exact HB.out))); (case aF => exact (fun k_ hk => ⟨(.inr (Nat.le_trans (below_size (by repeat (first | (with_reducible first | exact HB.out | apply below_alloc | apply pw_below_drewN | apply below_drew1 | refine below_set ?_ GE384.out | refine below_set ?_ GE385.out | refine below_set ?_ GE386.out | refine below_set ?_ GE393.out) | exact HB.out))) hk)), Kd.freshB (g := gb384) (o := .cells #[.int .i64 a0_0, .int .i64 a0_1, .slice (some ad387) l0_2.length c0_2] 35 (0, 0)) (by (with_reducible repeat (first | refine blk_drewN ?_ _ | refine blk_drew ?_ | refine blk_alloc ?_ _)); exact BK384.out) k_ hk, Kd.freshB (g := gb385) (o := .cells #[.int .i64 0, .int .i64 0, .slice none 0 0] 35 (0, 0)) (by (with_reducible repeat (first | refine blk_drewN ?_ _ | refine blk_drew ?_ | refine blk_alloc ?_ _)); exact BK385.out) k_ hk, Kd.freshB (g := gb386) (o := .cells #[.int .i64 a0_0, .int .i64 a0_1, u387002] 35 (0, 0)) (by (with_reducible repeat (first | refine blk_drewN ?_ _ | refine blk_drew ?_ | refine blk_alloc ?_ _)); exact BK386.out) k_ hk, Kd.freshB (g := gb393) (o := .cells #[.int .i64 t388, .int .i64 t389, .slice Ao50 t390.length co50] 35 (0, 0)) (by (with_reducible repeat (first | refine blk_drewN ?_ _ | refine blk_drew ?_ | refine blk_alloc ?_ _)); exact BK393.out) k_ hk⟩)); (case aO => exact (by (with_reducible repeat (first | apply Kd.N_alloc | apply Kd.N_drewN | apply Kd.N_drew)); exact HO_387002.out)); (case aS => exact (below_size (by repeat (first | (with_reducible first | exact HB.out | apply below_alloc | apply pw_below_drewN | apply below_drew1 | refine below_set ?_ GE384.out | refine below_set ?_ GE385.out | refine below_set ?_ GE386.out | refine below_set ?_ GE393.out) | exact HB.out)))); (case aL => have := LMc19.out; omega); intro v395 w55 ho hb hg hat; rw [← Ny394.out] at ho; have n0_ := Aside0.mk (Kd.V_afterv (ok := (fun k_ => (P0_2_ k_ ∨ w.heap.size ≤ k_) ∧ k_ ≠ gb384 ∧ k_ ≠ gb385 ∧ k_ ≠ gb386 ∧ k_ ≠ gb393)) (by (with_reducible repeat (first | apply Kd.V_alloc | apply Kd.V_drewN | apply Kd.V_drew)); exact Kd.V_mono HO_385002.out (fun _ hk => ⟨⟨hk.1, ⟨hk.2.2.1, ⟨hk.2.2.2.1, ⟨hk.2.2.2.2.1, hk.2.2.2.2.2⟩⟩⟩⟩, hk.2.1⟩)) hg hat); have n1_ := Aside0.mk (blk_grown (g := gb384) (o := .cells #[.int .i64 a0_0, .int .i64 a0_1, .slice (some ad387) l0_2.length c0_2] 35 (0, 0)) (by (with_reducible repeat (first | refine blk_drewN ?_ _ | refine blk_drew ?_ | refine blk_alloc ?_ _)); exact BK384.out) hg (Kd.N_away HO_387002.out (fun _ hk => hk.2.1))); have n2_ := Aside0.mk (blk_grown (g := gb385) (o := .cells #[.int .i64 0, .int .i64 0, .slice none 0 0] 35 (0, 0)) (by (with_reducible repeat (first | refine blk_drewN ?_ _ | refine blk_drew ?_ | refine blk_alloc ?_ _)); exact BK385.out) hg (Kd.N_away HO_387002.out (fun _ hk => hk.2.2.1))); have n3_ := Aside0.mk (blk_grown (g := gb386) (o := .cells #[.int .i64 a0_0, .int .i64 a0_1, u387002] 35 (0, 0)) (by (with_reducible repeat (first | refine blk_drewN ?_ _ | refine blk_drew ?_ | refine blk_alloc ?_ _)); exact BK386.out) hg (Kd.N_away HO_387002.out (fun _ hk => hk.2.2.2.1))); have n4_ := Aside0.mk (Kd.V_afterv (ok := (fun k_ => (P0_2_ k_ ∨ w.heap.size ≤ k_) ∧ k_ ≠ gb384 ∧ k_ ≠ gb385 ∧ k_ ≠ gb386 ∧ k_ ≠ gb393)) (by (with_reducible repeat (first | apply Kd.V_alloc | apply Kd.V_drewN | apply Kd.V_drew)); exact Kd.V_mono HL387_2.out (fun _ hk => ⟨⟨hk.1, ⟨hk.2.2.1, ⟨hk.2.2.2.1, ⟨hk.2.2.2.2.1, hk.2.2.2.2.2⟩⟩⟩⟩, hk.2.1⟩)) hg hat); have n5_ := Aside0.mk (Kd.V_afterv (ok := (fun k_ => (P0_2_ k_ ∨ w.heap.size ≤ k_) ∧ k_ ≠ gb384 ∧ k_ ≠ gb385 ∧ k_ ≠ gb386 ∧ k_ ≠ gb393)) (by (with_reducible repeat (first | apply Kd.V_alloc | apply Kd.V_drewN | apply Kd.V_drew)); exact Kd.V_mono HO392.out (fun _ hk => ⟨⟨hk.1, ⟨hk.2.2.1, ⟨hk.2.2.2.1, ⟨hk.2.2.2.2.1, hk.2.2.2.2.2⟩⟩⟩⟩, hk.2.1⟩)) hg hat); have n6_ := Aside0.mk (blk_grown (g := gb393) (o := .cells #[.int .i64 t388, .int .i64 t389, .slice Ao50 t390.length co50] 35 (0, 0)) (by (with_reducible repeat (first | refine blk_drewN ?_ _ | refine blk_drew ?_ | refine blk_alloc ?_ _)); exact BK393.out) hg (Kd.N_away HO_387002.out (fun _ hk => hk.2.2.2.2))); have n7_ := Aside0.mk (hb); have n8_ := Aside0.mk (ho); clear HO_385002; clear BK384; clear BK385; clear BK386; clear HL387_2; clear HO392; clear BK393; clear HB; clear HO_387002; have HO_385002 := n0_; have BK384 := n1_; have BK385 := n2_; have BK386 := n3_; have HL387_2 := n4_; have HO392 := n5_; have BK393 := n6_; have HB := n7_; have HO396 := n8_; clear n0_ n1_ n2_ n3_ n4_ n5_ n6_ n7_ n8_; clear ho hb hg hat; obtain ⟨Ao56, co56, eo56⟩ := Kd.N_slice HO396.out; subst eo56; have hcz57_0 : w55.cell? ⟨gb386, 0, none⟩ = some (.int .i64 a0_0) := (blk_cell BK386.out 0).trans rfl; have hcz57_1 : w55.cell? ⟨gb386, 1, none⟩ = some (.int .i64 a0_1) := (blk_cell BK386.out 1).trans rfl; have hcz57_2 : w55.cell? ⟨gb386, 2, none⟩ = some (u387002) := (blk_cell BK386.out 2).trans rfl; have hfz57_0 := blk_frozen BK386.out 0; have hfz57_1 := blk_frozen BK386.out 1; have hfz57_2 := blk_frozen BK386.out 2))
                go_roundg k1
                case measure => have := HK1.out; omega
                case rel => exact ⟨(false), (wrap64 (x5_1 + 1)), (y394), (.slice Ao56 y394.length co56), (by first | rfl | (simp; done) | (simp [*]; done)), (by first | rfl | (simp; done) | (simp [*]; done)), H', ⟨by have := HK1.out; omega⟩, ⟨by (with_reducible repeat (first | apply Kd.V_alloc | apply Kd.V_drewN | apply Kd.V_drew)); exact Kd.V_mono (Kd.V_far (p := ⟨gb386, 2, none⟩) (Kd.V_mono HO_385002.out (fun k_ hk => (⟨hk, hk.1.2.2.2.1⟩ : _ ∧ k_ ≠ gb386))) (fun _ hk => hk.2) (.slice Ao56 y394.length co56)) (fun _ hk => ⟨hk.1.1.1, ⟨hk.1.2, ⟨hk.1.1.2.1, ⟨hk.1.1.2.2.1, hk.1.1.2.2.2.1⟩⟩⟩⟩)⟩, ⟨by (with_reducible repeat (first | apply Kd.N_alloc | apply Kd.N_drewN | apply Kd.N_drew)); exact Kd.N_mono (Kd.N_far (p := ⟨gb386, 2, none⟩) (Kd.N_mono HO396.out (fun k_ hk => (⟨hk, hk.2.2.2.1⟩ : _ ∧ k_ ≠ gb386))) (fun _ hk => hk.2) (.slice Ao56 y394.length co56)) (fun _ hk => ⟨hk.1.1, ⟨hk.1.2.1, ⟨hk.1.2.2.1, hk.1.2.2.2.1⟩⟩⟩)⟩, ⟨by (with_reducible repeat (first | refine blk_drewN ?_ _ | refine blk_drew ?_ | refine blk_alloc ?_ _)); refine blk_far ?_ NB384_386.out _; (with_reducible repeat (first | refine blk_drewN ?_ _ | refine blk_drew ?_ | refine blk_alloc ?_ _)); exact BK384.out⟩, ⟨by (with_reducible repeat (first | refine blk_drewN ?_ _ | refine blk_drew ?_ | refine blk_alloc ?_ _)); refine blk_far ?_ NB385_386.out _; (with_reducible repeat (first | refine blk_drewN ?_ _ | refine blk_drew ?_ | refine blk_alloc ?_ _)); exact BK385.out⟩, ⟨by (with_reducible repeat (first | refine blk_drewN ?_ _ | refine blk_drew ?_ | refine blk_alloc ?_ _)); refine blk_put (cs := #[.int .i64 a0_0, .int .i64 a0_1, u387002]) ?_ 2 _ rfl; (with_reducible repeat (first | refine blk_drewN ?_ _ | refine blk_drew ?_ | refine blk_alloc ?_ _)); exact BK386.out⟩, ⟨by repeat (first | (with_reducible first | exact HB.out | apply below_alloc | apply pw_below_drewN | apply below_drew1 | refine below_set ?_ GE384.out | refine below_set ?_ GE385.out | refine below_set ?_ GE386.out | refine below_set ?_ GE393.out) | exact HB.out)⟩⟩
            · rw [if_neg c19] at H
              exact absurd H (by simp)
          · rw [if_neg c17] at H
            exact absurd H (by simp)
        · rw [if_neg c16] at H
          have c16b0 : decide (x5_1 < (l0_2.length : Int)) = false := decide_eq_false c16
          clear c16
          have HC58 := Aside0.mk H
          clear H
          have hnb59 := NB384_385.out
          have hnc59 := NB385_384.out
          have hnb60 := NB384_386.out
          have hnc60 := NB386_384.out
          have hcz61_0 : wr.cell? ⟨gb384, 0, none⟩ = some (.int .i64 a0_0) := (blk_cell BK384.out 0).trans rfl
          have hcz61_1 : wr.cell? ⟨gb384, 1, none⟩ = some (.int .i64 a0_1) := (blk_cell BK384.out 1).trans rfl
          have hcz61_2 : wr.cell? ⟨gb384, 2, none⟩ = some (.slice A0_2 l0_2.length c0_2) := (blk_cell BK384.out 2).trans rfl
          have hfz61_0 := blk_frozen BK384.out 0
          have hfz61_1 := blk_frozen BK384.out 1
          have hfz61_2 := blk_frozen BK384.out 2
          go_upto_region 11 with (fail)
          go_cut [51] (fun v51 wc => ∃ (kq : Nat) (x51_57 : Bool), v51 = .bool x51_57 ∧ Aside0 (headgateref21_reckon.j1 kq x4_1 x51_57 a0_0 a0_1 x387002_1 = some (r1, r2, r3)) ∧ Aside0 (kq ≤ k1) ∧ Aside0 (Kd.V k35 35 wc w.heap.size (fun k_ => (P0_2_ k_ ∨ w.heap.size ≤ k_) ∧ some k_ ≠ (u387002 : Value).ownBlock ∧ k_ ≠ gb384 ∧ k_ ≠ gb385 ∧ k_ ≠ gb386) (.slice A0_2 l0_2.length c0_2) l0_2) ∧ Aside0 (Kd.N k35 35 wc w.heap.size (fun k_ => (P0_2_ k_ ∨ w.heap.size ≤ k_) ∧ k_ ≠ gb384 ∧ k_ ≠ gb385 ∧ k_ ≠ gb386) u387002 x387002_1) ∧ Aside0 (wc.heap[gb384]? = some (.cells #[.int .i64 a0_0, .int .i64 a0_1, (.slice A0_2 l0_2.length c0_2)] 35 (0, 0))) ∧ Aside0 (wc.heap[gb385]? = some (.cells #[.int .i64 0, .int .i64 0, (.slice none 0 0)] 35 (0, 0))) ∧ Aside0 (wc.heap[gb386]? = some (.cells #[.int .i64 a0_0, .int .i64 a0_1, u387002] 35 (0, 0))) ∧ Aside0 (Below w.heap.size w wc))
          case first =>
            have H := HC58.out
            clear HC58
            by_cases c62 : a0_0 = 22
            · rw [if_pos c62] at H
              have c62b0 : (a0_0 == 22) = true := beq_iff_eq.mpr c62
              have c62b1 : (a0_0 != 22) = false := bne_eq_false_iff_eq.mpr c62
              clear c62
              (first | rw [c62b0] | (simp only [i64_w, i32_w]; rw [c62b0]) | skip)
              by_cases c63 : 0 < (x387002_1.length : Int)
              · rw [if_pos c63] at H
                have c63b0 : decide (0 < (x387002_1.length : Int)) = true := decide_eq_true c63
                have c63b1 : decide (0 < x387002_1.length) = true := decide_eq_true (by omega)
                clear c63
                replace H := Option.bind_eq_some_iff.mp H
                obtain ⟨t399, A640, H⟩ := H
                replace H : (headgateref21_reckon.j1 k1 x4_1 t399 a0_0 a0_1 x387002_1) = some (r1, r2, r3) := H
                have A64 := Aside0.mk A640
                clear A640
                have H' := Aside0.mk H
                clear H
                have hnb65 := NB386_384.out
                have hnc65 := NB384_386.out
                have hnb66 := NB386_385.out
                have hnc66 := NB385_386.out
                have hcz67_0 : wr.cell? ⟨gb386, 0, none⟩ = some (.int .i64 a0_0) := (blk_cell BK386.out 0).trans rfl
                have hcz67_1 : wr.cell? ⟨gb386, 1, none⟩ = some (.int .i64 a0_1) := (blk_cell BK386.out 1).trans rfl
                have hcz67_2 : wr.cell? ⟨gb386, 2, none⟩ = some (u387002) := (blk_cell BK386.out 2).trans rfl
                have hfz67_0 := blk_frozen BK386.out 0
                have hfz67_1 := blk_frozen BK386.out 1
                have hfz67_2 := blk_frozen BK386.out 2
                obtain ⟨Ao68, co68, eo68⟩ := Kd.N_slice HO_387002.out
                subst eo68
                have p398 : 0 ≤ (0 : Int) := (by omega)
                have q398 : 0 < (x387002_1.length : Int) := of_decide_eq_true (by first | (with_reducible assumption) | assumption)
                obtain ⟨ad398, A398_2, c398_2, e398, hx398_0, hx398_1, hx398_2, hl398_2, hi398_2⟩ := at_T35 (Kd.N_reads' HO_387002.out).2.2 0 p398 q398
                cases e398
                obtain ⟨ce398, hce398, hMe398, hcc398⟩ := Kd.N_get HO_387002.out z35 0 p398 (by first | exact q398 | exact of_decide_eq_true (by first | (with_reducible assumption) | assumption) | (have e_ := (Kd.N_reads' HO_387002.out).1; omega))
                obtain ⟨ua398_2, uc398_2, rfl, ul398_2, ge398_2⟩ := k35_openF hMe398
                have hv398_2 := hcc398 2 _ rfl
                rw [add_field _ _ 2 (by omega)] at hv398_2
                replace hv398_2 := Option.some.inj (hv398_2.symm.trans hx398_2)
                injection hv398_2 with hva_ hvn_ hvc_
                rw [hva_] at ge398_2
                rw [hvc_] at ul398_2
                have HL398_2 := Aside0.mk (show Kd.V k35 35 _ w.heap.size _ _ ((rd_T35 x387002_1 0).f2) from Kd.V_mk ul398_2 ge398_2)
                clear hva_ hvn_ hvc_ ge398_2 ul398_2
                clear hcc398 hce398
                have qi398 : (0 < x387002_1.length) = True := eq_true (by omega)
                (try rw [show ((0 : Int)).toNat = 0 from rfl] at hx398_0)
                (try rw [show 0 * 3 = 0 from rfl] at hx398_0)
                (try rw [Addr.add_zero'] at hx398_0)
                (try rw [show ((0 : Int)).toNat = 0 from rfl] at hx398_1)
                (try rw [show 0 * 3 = 0 from rfl] at hx398_1)
                (try rw [Addr.add_zero'] at hx398_1)
                (try rw [show ((0 : Int)).toNat = 0 from rfl] at hx398_2)
                (try rw [show 0 * 3 = 0 from rfl] at hx398_2)
                (try rw [Addr.add_zero'] at hx398_2)
                have HR398_2 := Aside0.mk hi398_2
                have HC398_2 := Aside0.mk hl398_2
                clear hi398_2 hl398_2
                replace p398 := eq_true p398
                replace q398 := eq_true q398
                go_wp2_with (first | (go_at_call 51; (with_reducible refine (headgateref21_Constant.calls ((rd_T35 x387002_1 0).f0) ((rd_T35 x387002_1 0).f1) _ _ ((rd_T35 x387002_1 0).f2) t399 _ ?side1 ?side2 A64.out).mono ?_); (case side1 => repeat (first | exact (by repeat (first | (with_reducible exact HR398_2.out) | (with_reducible refine Kd.C_alloc ?_ _) | (with_reducible refine Kd.C_drewN ?_ _) | (with_reducible refine Kd.C_drew ?_) | exact HR398_2.out)) | (with_reducible refine Kd.C_alloc ?_ _) | (with_reducible refine Kd.C_drewN ?_ _) | (with_reducible refine Kd.C_drew ?_))); (case side2 => exact HC398_2.out); rintro e w69 ⟨rfl, hb⟩; have n0_ := Aside0.mk (Kd.V_below (by (with_reducible repeat (first | apply Kd.V_alloc | apply Kd.V_drewN | apply Kd.V_drew)); exact HO_385002.out) hb); have n1_ := Aside0.mk (Kd.N_below (by (with_reducible repeat (first | apply Kd.N_alloc | apply Kd.N_drewN | apply Kd.N_drew)); exact HO_387002.out) hb); have n2_ := Aside0.mk (Kd.V_below (by (with_reducible repeat (first | apply Kd.V_alloc | apply Kd.V_drewN | apply Kd.V_drew)); exact HL398_2.out) hb); have n3_ := Aside0.mk (blk_below (g := gb384) (o := .cells #[.int .i64 a0_0, .int .i64 a0_1, .slice A0_2 l0_2.length c0_2] 35 (0, 0)) (by (with_reducible repeat (first | refine blk_drewN ?_ _ | refine blk_drew ?_ | refine blk_alloc ?_ _)); exact BK384.out) hb); have n4_ := Aside0.mk (blk_below (g := gb385) (o := .cells #[.int .i64 0, .int .i64 0, .slice none 0 0] 35 (0, 0)) (by (with_reducible repeat (first | refine blk_drewN ?_ _ | refine blk_drew ?_ | refine blk_alloc ?_ _)); exact BK385.out) hb); have n5_ := Aside0.mk (blk_below (g := gb386) (o := .cells #[.int .i64 a0_0, .int .i64 a0_1, .slice (some ad398) x387002_1.length co68] 35 (0, 0)) (by (with_reducible repeat (first | refine blk_drewN ?_ _ | refine blk_drew ?_ | refine blk_alloc ?_ _)); exact BK386.out) hb); have n6_ := Aside0.mk (Kd.C_below (by repeat (first | (with_reducible exact HR398_2.out) | (with_reducible refine Kd.C_alloc ?_ _) | (with_reducible refine Kd.C_drewN ?_ _) | (with_reducible refine Kd.C_drew ?_) | exact HR398_2.out)) hb); have n7_ := Aside0.mk (below_step (by repeat (first | (with_reducible first | exact HB.out | apply below_alloc | apply pw_below_drewN | apply below_drew1 | refine below_set ?_ GE384.out | refine below_set ?_ GE385.out | refine below_set ?_ GE386.out) | exact HB.out)) hb); clear HO_385002; clear HO_387002; clear HL398_2; clear BK384; clear BK385; clear BK386; clear HR398_2; clear HB; have HO_385002 := n0_; have HO_387002 := n1_; have HL398_2 := n2_; have BK384 := n3_; have BK385 := n4_; have BK386 := n5_; have HR398_2 := n6_; have HB := n7_; clear n0_ n1_ n2_ n3_ n4_ n5_ n6_ n7_; (try clear hb); (try clear hb2); (try clear hk); (try clear hi)))
                go_meet
                case rel => exact ⟨_, (t399), (by first | rfl | (simp; done) | (simp [*]; done)), H', ⟨by have := HK1.out; first | omega | exact Nat.le_refl _⟩, ⟨by (with_reducible repeat (first | apply Kd.V_alloc | apply Kd.V_drewN | apply Kd.V_drew)); exact HO_385002.out⟩, ⟨by (with_reducible repeat (first | apply Kd.N_alloc | apply Kd.N_drewN | apply Kd.N_drew)); exact HO_387002.out⟩, ⟨by (with_reducible repeat (first | refine blk_drewN ?_ _ | refine blk_drew ?_ | refine blk_alloc ?_ _)); exact BK384.out⟩, ⟨by (with_reducible repeat (first | refine blk_drewN ?_ _ | refine blk_drew ?_ | refine blk_alloc ?_ _)); exact BK385.out⟩, ⟨by (with_reducible repeat (first | refine blk_drewN ?_ _ | refine blk_drew ?_ | refine blk_alloc ?_ _)); exact BK386.out⟩, ⟨by repeat (first | (with_reducible first | exact HB.out | apply below_alloc | apply pw_below_drewN | apply below_drew1 | refine below_set ?_ GE384.out | refine below_set ?_ GE385.out | refine below_set ?_ GE386.out) | exact HB.out)⟩⟩
              · rw [if_neg c63] at H
                exact absurd H (by simp)
            · rw [if_neg c62] at H
              have c62b0 : (a0_0 == 22) = false := beq_eq_false_iff_ne.mpr c62
              have c62b1 : (a0_0 != 22) = true := bne_iff_ne.mpr c62
              (first | rw [c62b0] | (simp only [i64_w, i32_w]; rw [c62b0]) | skip)
              have H' := Aside0.mk H
              clear H
              have hnb70 := NB386_384.out
              have hnc70 := NB384_386.out
              have hnb71 := NB386_385.out
              have hnc71 := NB385_386.out
              have hcz72_0 : wr.cell? ⟨gb386, 0, none⟩ = some (.int .i64 a0_0) := (blk_cell BK386.out 0).trans rfl
              have hcz72_1 : wr.cell? ⟨gb386, 1, none⟩ = some (.int .i64 a0_1) := (blk_cell BK386.out 1).trans rfl
              have hcz72_2 : wr.cell? ⟨gb386, 2, none⟩ = some (u387002) := (blk_cell BK386.out 2).trans rfl
              have hfz72_0 := blk_frozen BK386.out 0
              have hfz72_1 := blk_frozen BK386.out 1
              have hfz72_2 := blk_frozen BK386.out 2
              go_wp2
              go_meet
              case rel => exact ⟨_, (false), (by first | rfl | (simp; done) | (simp [*]; done)), H', ⟨by have := HK1.out; first | omega | exact Nat.le_refl _⟩, ⟨by (with_reducible repeat (first | apply Kd.V_alloc | apply Kd.V_drewN | apply Kd.V_drew)); exact HO_385002.out⟩, ⟨by (with_reducible repeat (first | apply Kd.N_alloc | apply Kd.N_drewN | apply Kd.N_drew)); exact HO_387002.out⟩, ⟨by (with_reducible repeat (first | refine blk_drewN ?_ _ | refine blk_drew ?_ | refine blk_alloc ?_ _)); exact BK384.out⟩, ⟨by (with_reducible repeat (first | refine blk_drewN ?_ _ | refine blk_drew ?_ | refine blk_alloc ?_ _)); exact BK385.out⟩, ⟨by (with_reducible repeat (first | refine blk_drewN ?_ _ | refine blk_drew ?_ | refine blk_alloc ?_ _)); exact BK386.out⟩, ⟨by repeat (first | (with_reducible first | exact HB.out | apply below_alloc | apply pw_below_drewN | apply below_drew1 | refine below_set ?_ GE384.out | refine below_set ?_ GE385.out | refine below_set ?_ GE386.out) | exact HB.out)⟩⟩
          case rest =>
            clear HC58
            try clear c1
            try clear c2
            try clear c2b0
            try clear c2b1
            try clear c2b2
            try clear p2
            try clear c3
            try clear p3
            try clear q3
            try clear hx3
            try clear qi3
            try clear c4
            try clear c5
            try clear c6
            try clear p6
            try clear c7
            try clear c10
            try clear c13
            try clear c14
            try clear c16
            try clear c16b0
            try clear c17
            try clear c17b0
            try clear c19
            try clear c20
            try clear c22
            try clear c23
            try clear c27
            try clear c28
            try clear c29
            try clear c33
            try clear c37
            try clear c38
            try clear p38
            try clear q38
            try clear hx38
            try clear c39
            try clear p39
            try clear q39
            try clear hx39
            try clear qi39
            try clear c41
            try clear c42
            try clear c46
            try clear c47
            try clear c48
            try clear c52
            try clear c59
            try clear c60
            try clear c62
            try clear c62b0
            try clear c62b1
            try clear c63
            try clear c63b0
            try clear c63b1
            try clear p64
            try clear c65
            try clear c66
            try clear c70
            try clear c71
            try clear hcz11_0
            try clear hcz11_1
            try clear hcz11_2
            try clear hcz15_0
            try clear hcz15_1
            try clear hcz15_2
            try clear hcz24_0
            try clear hcz24_1
            try clear hcz24_2
            try clear hcz30_0
            try clear hcz30_1
            try clear hcz30_2
            try clear hcz34_0
            try clear hcz34_1
            try clear hcz34_2
            try clear hcz35_0
            try clear hcz35_1
            try clear hcz35_2
            try clear hcz38_0
            try clear hcz38_1
            try clear hcz38_2
            try clear hcz39_0
            try clear hcz39_1
            try clear hcz39_2
            try clear hcz43_0
            try clear hcz43_1
            try clear hcz43_2
            try clear hcz49_0
            try clear hcz49_1
            try clear hcz49_2
            try clear hcz53_0
            try clear hcz53_1
            try clear hcz53_2
            try clear hcz54_0
            try clear hcz54_1
            try clear hcz54_2
            try clear hcz57_0
            try clear hcz57_1
            try clear hcz57_2
            try clear hcz61_0
            try clear hcz61_1
            try clear hcz61_2
            try clear hcz67_0
            try clear hcz67_1
            try clear hcz67_2
            try clear hcz6_0
            try clear hcz6_1
            try clear hcz6_2
            try clear hcz72_0
            try clear hcz72_1
            try clear hcz72_2
            try clear hcz7_0
            try clear hcz7_1
            try clear hcz7_2
            try clear hfz11_0
            try clear hfz11_1
            try clear hfz11_2
            try clear hfz15_0
            try clear hfz15_1
            try clear hfz15_2
            try clear hfz24_0
            try clear hfz24_1
            try clear hfz24_2
            try clear hfz30_0
            try clear hfz30_1
            try clear hfz30_2
            try clear hfz34_0
            try clear hfz34_1
            try clear hfz34_2
            try clear hfz35_0
            try clear hfz35_1
            try clear hfz35_2
            try clear hfz38_0
            try clear hfz38_1
            try clear hfz38_2
            try clear hfz39_0
            try clear hfz39_1
            try clear hfz39_2
            try clear hfz43_0
            try clear hfz43_1
            try clear hfz43_2
            try clear hfz49_0
            try clear hfz49_1
            try clear hfz49_2
            try clear hfz53_0
            try clear hfz53_1
            try clear hfz53_2
            try clear hfz54_0
            try clear hfz54_1
            try clear hfz54_2
            try clear hfz57_0
            try clear hfz57_1
            try clear hfz57_2
            try clear hfz61_0
            try clear hfz61_1
            try clear hfz61_2
            try clear hfz67_0
            try clear hfz67_1
            try clear hfz67_2
            try clear hfz6_0
            try clear hfz6_1
            try clear hfz6_2
            try clear hfz72_0
            try clear hfz72_1
            try clear hfz72_2
            try clear hfz7_0
            try clear hfz7_1
            try clear hfz7_2
            try clear hx387_0
            try clear hx387_1
            try clear hx387_2
            try clear hx398_0
            try clear hx398_1
            try clear hx398_2
            try clear p2
            try clear p387
            try clear p398
            try clear q387
            try clear q398
            obtain ⟨kq, x51_57, rfl, HA, HJ57, HO_385002, HO_387002, BK384, BK385, BK386, HB⟩ := hcut
            cases kq with
            | zero => exact absurd HA.out (by simp [headgateref21_reckon.j1])
            | succ kj57 =>
              have H := HA.out
              clear HA
              simp only [headgateref21_reckon.j1] at H
              by_cases c73 : x51_57 = true
              · subst c73
                have H1 : (if 0 < (x387002_1.length : Int) then ((headgateref21_Value.f kj57 ((rd_T35 x387002_1 0).f0) ((rd_T35 x387002_1 0).f1) ((rd_T35 x387002_1 0).f2) 0 0 0).bind fun t401 => (if t401 = 0 then (if 2 < (x387002_1.length : Int) then (some ((rd_T35 x387002_1 2).f0, (rd_T35 x387002_1 2).f1, (rd_T35 x387002_1 2).f2)) else (none)) else (if 1 < (x387002_1.length : Int) then (some ((rd_T35 x387002_1 1).f0, (rd_T35 x387002_1 1).f1, (rd_T35 x387002_1 1).f2)) else (none)))) else (none)) = some (r1, r2, r3) := by rw [if_pos rfl] at H; exact H
                clear H
                have H := H1
                clear H1
                by_cases c74 : 0 < (x387002_1.length : Int)
                · rw [if_pos c74] at H
                  have c74b0 : decide (0 < (x387002_1.length : Int)) = true := decide_eq_true c74
                  have c74b1 : decide (0 < x387002_1.length) = true := decide_eq_true (by omega)
                  clear c74
                  replace H := Option.bind_eq_some_iff.mp H
                  obtain ⟨t401, A750, H⟩ := H
                  replace H : (if t401 = 0 then (if 2 < (x387002_1.length : Int) then (some ((rd_T35 x387002_1 2).f0, (rd_T35 x387002_1 2).f1, (rd_T35 x387002_1 2).f2)) else (none)) else (if 1 < (x387002_1.length : Int) then (some ((rd_T35 x387002_1 1).f0, (rd_T35 x387002_1 1).f1, (rd_T35 x387002_1 1).f2)) else (none))) = some (r1, r2, r3) := H
                  have A75 := Aside0.mk A750
                  clear A750
                  by_cases c76 : t401 = 0
                  · rw [if_pos c76] at H
                    have c76b0 : (t401 == 0) = true := beq_iff_eq.mpr c76
                    have c76b1 : (t401 != 0) = false := bne_eq_false_iff_eq.mpr c76
                    clear c76
                    by_cases c77 : 2 < (x387002_1.length : Int)
                    · rw [if_pos c77] at H
                      have c77b0 : decide (2 < (x387002_1.length : Int)) = true := decide_eq_true c77
                      have c77b1 : decide (2 < x387002_1.length) = true := decide_eq_true (by omega)
                      clear c77
                      simp only [Option.some.injEq, Prod.mk.injEq] at H
                      obtain ⟨rfl, rfl, rfl⟩ := H
                      have hnb78 := NB386_384.out
                      have hnc78 := NB384_386.out
                      have hnb79 := NB386_385.out
                      have hnc79 := NB385_386.out
                      have hcz80_0 : wc.cell? ⟨gb386, 0, none⟩ = some (.int .i64 a0_0) := (blk_cell BK386.out 0).trans rfl
                      have hcz80_1 : wc.cell? ⟨gb386, 1, none⟩ = some (.int .i64 a0_1) := (blk_cell BK386.out 1).trans rfl
                      have hcz80_2 : wc.cell? ⟨gb386, 2, none⟩ = some (u387002) := (blk_cell BK386.out 2).trans rfl
                      have hfz80_0 := blk_frozen BK386.out 0
                      have hfz80_1 := blk_frozen BK386.out 1
                      have hfz80_2 := blk_frozen BK386.out 2
                      obtain ⟨Ao81, co81, eo81⟩ := Kd.N_slice HO_387002.out
                      subst eo81
                      have p400 : 0 ≤ (0 : Int) := (by omega)
                      have q400 : 0 < (x387002_1.length : Int) := of_decide_eq_true (by first | (with_reducible assumption) | assumption)
                      obtain ⟨ad400, A400_2, c400_2, e400, hx400_0, hx400_1, hx400_2, hl400_2, hi400_2⟩ := at_T35 (Kd.N_reads' HO_387002.out).2.2 0 p400 q400
                      cases e400
                      obtain ⟨ce400, hce400, hMe400, hcc400⟩ := Kd.N_get HO_387002.out z35 0 p400 (by first | exact q400 | exact of_decide_eq_true (by first | (with_reducible assumption) | assumption) | (have e_ := (Kd.N_reads' HO_387002.out).1; omega))
                      obtain ⟨ua400_2, uc400_2, rfl, ul400_2, ge400_2⟩ := k35_openF hMe400
                      have hv400_2 := hcc400 2 _ rfl
                      rw [add_field _ _ 2 (by omega)] at hv400_2
                      replace hv400_2 := Option.some.inj (hv400_2.symm.trans hx400_2)
                      injection hv400_2 with hva_ hvn_ hvc_
                      rw [hva_] at ge400_2
                      rw [hvc_] at ul400_2
                      have HL400_2 := Aside0.mk (show Kd.V k35 35 _ w.heap.size _ _ ((rd_T35 x387002_1 0).f2) from Kd.V_mk ul400_2 ge400_2)
                      clear hva_ hvn_ hvc_ ge400_2 ul400_2
                      clear hcc400 hce400
                      have qi400 : (0 < x387002_1.length) = True := eq_true (by omega)
                      (try rw [show ((0 : Int)).toNat = 0 from rfl] at hx400_0)
                      (try rw [show 0 * 3 = 0 from rfl] at hx400_0)
                      (try rw [Addr.add_zero'] at hx400_0)
                      (try rw [show ((0 : Int)).toNat = 0 from rfl] at hx400_1)
                      (try rw [show 0 * 3 = 0 from rfl] at hx400_1)
                      (try rw [Addr.add_zero'] at hx400_1)
                      (try rw [show ((0 : Int)).toNat = 0 from rfl] at hx400_2)
                      (try rw [show 0 * 3 = 0 from rfl] at hx400_2)
                      (try rw [Addr.add_zero'] at hx400_2)
                      have HR400_2 := Aside0.mk hi400_2
                      have HC400_2 := Aside0.mk hl400_2
                      clear hi400_2 hl400_2
                      replace p400 := eq_true p400
                      replace q400 := eq_true q400
                      go_wp2_with (first | ((with_reducible refine gate_callee (f := 20) rfl ?_); refine goesL_ (some 56) rfl rfl Try.func20 (by kernel_rfl) rfl #[.agg #[.int .i64 ((rd_T35 x387002_1 0).f0), .int .i64 ((rd_T35 x387002_1 0).f1), .slice A400_2 ((rd_T35 x387002_1 0).f2).length c400_2], .int .i64 0, .int .i64 0, .int .i64 0] rfl (by (try simp only [List.map_toArray, List.map_cons, List.map_nil]); first | done | rfl | (simp only [List.length_drop, List.length_take]; rfl)) ?_; (with_reducible refine (headgateref21_Value.calls kj57 ((rd_T35 x387002_1 0).f0) ((rd_T35 x387002_1 0).f1) _ _ ((rd_T35 x387002_1 0).f2) 0 0 0 t401 _ ?side1 ?side2 A75.out).mono ?_); (case side1 => repeat (first | exact (by repeat (first | (with_reducible exact HR400_2.out) | (with_reducible refine Kd.C_alloc ?_ _) | (with_reducible refine Kd.C_drewN ?_ _) | (with_reducible refine Kd.C_drew ?_) | exact HR400_2.out)) | (with_reducible refine Kd.C_alloc ?_ _) | (with_reducible refine Kd.C_drewN ?_ _) | (with_reducible refine Kd.C_drew ?_))); (case side2 => exact HC400_2.out); rintro e w82 ⟨rfl, hb⟩; refine ⟨_, rfl, ?_⟩; have n0_ := Aside0.mk (Kd.V_below (by (with_reducible repeat (first | apply Kd.V_alloc | apply Kd.V_drewN | apply Kd.V_drew)); exact HO_385002.out) hb); have n1_ := Aside0.mk (Kd.N_below (by (with_reducible repeat (first | apply Kd.N_alloc | apply Kd.N_drewN | apply Kd.N_drew)); exact HO_387002.out) hb); have n2_ := Aside0.mk (Kd.V_below (by (with_reducible repeat (first | apply Kd.V_alloc | apply Kd.V_drewN | apply Kd.V_drew)); exact HL400_2.out) hb); have n3_ := Aside0.mk (blk_below (g := gb384) (o := .cells #[.int .i64 a0_0, .int .i64 a0_1, .slice A0_2 l0_2.length c0_2] 35 (0, 0)) (by (with_reducible repeat (first | refine blk_drewN ?_ _ | refine blk_drew ?_ | refine blk_alloc ?_ _)); exact BK384.out) hb); have n4_ := Aside0.mk (blk_below (g := gb385) (o := .cells #[.int .i64 0, .int .i64 0, .slice none 0 0] 35 (0, 0)) (by (with_reducible repeat (first | refine blk_drewN ?_ _ | refine blk_drew ?_ | refine blk_alloc ?_ _)); exact BK385.out) hb); have n5_ := Aside0.mk (blk_below (g := gb386) (o := .cells #[.int .i64 a0_0, .int .i64 a0_1, .slice (some ad400) x387002_1.length co81] 35 (0, 0)) (by (with_reducible repeat (first | refine blk_drewN ?_ _ | refine blk_drew ?_ | refine blk_alloc ?_ _)); exact BK386.out) hb); have n6_ := Aside0.mk (Kd.C_below (by repeat (first | (with_reducible exact HR400_2.out) | (with_reducible refine Kd.C_alloc ?_ _) | (with_reducible refine Kd.C_drewN ?_ _) | (with_reducible refine Kd.C_drew ?_) | exact HR400_2.out)) hb); have n7_ := Aside0.mk (below_step (by repeat (first | (with_reducible first | exact HB.out | apply below_alloc | apply pw_below_drewN | apply below_drew1 | refine below_set ?_ GE384.out | refine below_set ?_ GE385.out | refine below_set ?_ GE386.out) | exact HB.out)) hb); clear HO_385002; clear HO_387002; clear HL400_2; clear BK384; clear BK385; clear BK386; clear HR400_2; clear HB; have HO_385002 := n0_; have HO_387002 := n1_; have HL400_2 := n2_; have BK384 := n3_; have BK385 := n4_; have BK386 := n5_; have HR400_2 := n6_; have HB := n7_; clear n0_ n1_ n2_ n3_ n4_ n5_ n6_ n7_; (try clear hb); (try clear hb2); (try clear hk); (try clear hi); have hcz83_0 : w82.cell? ⟨gb386, 0, none⟩ = some (.int .i64 a0_0) := (blk_cell BK386.out 0).trans rfl; have hcz83_1 : w82.cell? ⟨gb386, 1, none⟩ = some (.int .i64 a0_1) := (blk_cell BK386.out 1).trans rfl; have hcz83_2 : w82.cell? ⟨gb386, 2, none⟩ = some (.slice (some ad400) x387002_1.length co81) := (blk_cell BK386.out 2).trans rfl; have hfz83_0 := blk_frozen BK386.out 0; have hfz83_1 := blk_frozen BK386.out 1; have hfz83_2 := blk_frozen BK386.out 2; have p402 : 0 ≤ (2 : Int) := (by omega); have q402 : 2 < (x387002_1.length : Int) := of_decide_eq_true (by first | (with_reducible assumption) | assumption); obtain ⟨ad402, A402_2, c402_2, e402, hx402_0, hx402_1, hx402_2, hl402_2, hi402_2⟩ := at_T35 (Kd.N_reads' HO_387002.out).2.2 2 p402 q402; obtain rfl : ad400 = ad402 := (by injection e402); obtain ⟨ce402, hce402, hMe402, hcc402⟩ := Kd.N_get HO_387002.out z35 2 p402 (by first | exact q402 | exact of_decide_eq_true (by first | (with_reducible assumption) | assumption) | (have e_ := (Kd.N_reads' HO_387002.out).1; omega)); obtain ⟨ua402_2, uc402_2, rfl, ul402_2, ge402_2⟩ := k35_openF hMe402; have hv402_2 := hcc402 2 _ rfl; rw [add_field _ _ 2 (by omega)] at hv402_2; replace hv402_2 := Option.some.inj (hv402_2.symm.trans hx402_2); injection hv402_2 with hva_ hvn_ hvc_; rw [hva_] at ge402_2; rw [hvc_] at ul402_2; have HL402_2 := Aside0.mk (show Kd.V k35 35 _ w.heap.size _ _ ((rd_T35 x387002_1 2).f2) from Kd.V_mk ul402_2 ge402_2); clear hva_ hvn_ hvc_ ge402_2 ul402_2; clear hcc402 hce402; (try simp only [show (2 : Int).toNat = 2 from rfl, Nat.reduceMul, Nat.reduceEqDiff, Go.Addr.add, ↓reduceIte] at hx402_0); (try simp only [show (2 : Int).toNat = 2 from rfl, Nat.reduceMul, Nat.reduceEqDiff, Go.Addr.add, ↓reduceIte] at hx402_1); (try simp only [show (2 : Int).toNat = 2 from rfl, Nat.reduceMul, Nat.reduceEqDiff, Go.Addr.add, ↓reduceIte] at hx402_2); have qi402 : (2 < x387002_1.length) = True := eq_true (by omega); (try rw [show ((2 : Int)).toNat = 2 from rfl] at hx402_0); (try rw [show 2 * 3 = 6 from rfl] at hx402_0); (try rw [show ((2 : Int)).toNat = 2 from rfl] at hx402_1); (try rw [show 2 * 3 = 6 from rfl] at hx402_1); (try rw [show ((2 : Int)).toNat = 2 from rfl] at hx402_2); (try rw [show 2 * 3 = 6 from rfl] at hx402_2); have HR402_2 := Aside0.mk hi402_2; have HC402_2 := Aside0.mk hl402_2; clear hi402_2 hl402_2; replace p402 := eq_true p402; replace q402 := eq_true q402; have hnb84 := NB385_384.out; have hnc84 := NB384_385.out; have hcz85_0 : w82.cell? ⟨gb385, 0, none⟩ = some (.int .i64 0) := (blk_cell BK385.out 0).trans rfl; have hcz85_1 : w82.cell? ⟨gb385, 1, none⟩ = some (.int .i64 0) := (blk_cell BK385.out 1).trans rfl; have hcz85_2 : w82.cell? ⟨gb385, 2, none⟩ = some (.slice none 0 0) := (blk_cell BK385.out 2).trans rfl; have hfz85_0 := blk_frozen BK385.out 0; have hfz85_1 := blk_frozen BK385.out 1; have hfz85_2 := blk_frozen BK385.out 2))
                      refine bodyPost_ret (results_cell_row rfl _ _ gb385 35 #[.int .i64 ((rd_T35 x387002_1 2).f0), .int .i64 ((rd_T35 x387002_1 2).f1), .slice A402_2 ((rd_T35 x387002_1 2).f2).length c402_2] (0, 0) _ rfl (by (with_reducible repeat (first | refine blk_drewN ?_ _ | refine blk_drew ?_ | refine blk_alloc ?_ _)); refine blk_put (cs := #[.int .i64 ((rd_T35 x387002_1 2).f0), .int .i64 ((rd_T35 x387002_1 2).f1), .slice none 0 0]) ?_ 2 _ rfl; (with_reducible repeat (first | refine blk_drewN ?_ _ | refine blk_drew ?_ | refine blk_alloc ?_ _)); refine blk_put (cs := #[.int .i64 ((rd_T35 x387002_1 2).f0), .int .i64 0, .slice none 0 0]) ?_ 1 _ rfl; (with_reducible repeat (first | refine blk_drewN ?_ _ | refine blk_drew ?_ | refine blk_alloc ?_ _)); refine blk_put (cs := #[.int .i64 0, .int .i64 0, .slice none 0 0]) ?_ 0 _ rfl; (with_reducible repeat (first | refine blk_drewN ?_ _ | refine blk_drew ?_ | refine blk_alloc ?_ _)); exact BK385.out) Try.underlying35 rfl (by kernel_rfl)) rfl ?_
                      exact ⟨_, by first | rfl | (simp [errW_none, errW_some] <;> rfl) | (simp [*, errW_none, errW_some] <;> rfl), by (with_reducible repeat (first | apply Kd.V_alloc | apply Kd.V_drewN | apply Kd.V_drew)); exact Kd.V_mono (Kd.V_far (p := ⟨gb385, 2, none⟩) (Kd.V_far (p := ⟨gb385, 1, none⟩) (Kd.V_far (p := ⟨gb385, 0, none⟩) (Kd.V_mono HL402_2.out (fun k_ hk => (⟨hk, hk.1.2.2.1⟩ : _ ∧ k_ ≠ gb385))) (fun _ hk => hk.2) (.int .i64 ((rd_T35 x387002_1 2).f0))) (fun _ hk => hk.2) (.int .i64 ((rd_T35 x387002_1 2).f1))) (fun _ hk => hk.2) (.slice A402_2 ((rd_T35 x387002_1 2).f2).length c402_2)) (fun _ hk => hk.1.1.1), by repeat (first | (with_reducible first | exact HB.out | apply below_alloc | apply pw_below_drewN | apply below_drew1 | refine below_set ?_ GE384.out | refine below_set ?_ GE385.out | refine below_set ?_ GE386.out) | exact HB.out)⟩
                    · rw [if_neg c77] at H
                      exact absurd H (by simp)
                  · rw [if_neg c76] at H
                    have c76b0 : (t401 == 0) = false := beq_eq_false_iff_ne.mpr c76
                    have c76b1 : (t401 != 0) = true := bne_iff_ne.mpr c76
                    by_cases c86 : 1 < (x387002_1.length : Int)
                    · rw [if_pos c86] at H
                      have c86b0 : decide (1 < (x387002_1.length : Int)) = true := decide_eq_true c86
                      have c86b1 : decide (1 < x387002_1.length) = true := decide_eq_true (by omega)
                      clear c86
                      simp only [Option.some.injEq, Prod.mk.injEq] at H
                      obtain ⟨rfl, rfl, rfl⟩ := H
                      have hnb87 := NB386_384.out
                      have hnc87 := NB384_386.out
                      have hnb88 := NB386_385.out
                      have hnc88 := NB385_386.out
                      have hcz89_0 : wc.cell? ⟨gb386, 0, none⟩ = some (.int .i64 a0_0) := (blk_cell BK386.out 0).trans rfl
                      have hcz89_1 : wc.cell? ⟨gb386, 1, none⟩ = some (.int .i64 a0_1) := (blk_cell BK386.out 1).trans rfl
                      have hcz89_2 : wc.cell? ⟨gb386, 2, none⟩ = some (u387002) := (blk_cell BK386.out 2).trans rfl
                      have hfz89_0 := blk_frozen BK386.out 0
                      have hfz89_1 := blk_frozen BK386.out 1
                      have hfz89_2 := blk_frozen BK386.out 2
                      obtain ⟨Ao90, co90, eo90⟩ := Kd.N_slice HO_387002.out
                      subst eo90
                      have p400 : 0 ≤ (0 : Int) := (by omega)
                      have q400 : 0 < (x387002_1.length : Int) := of_decide_eq_true (by first | (with_reducible assumption) | assumption)
                      obtain ⟨ad400, A400_2, c400_2, e400, hx400_0, hx400_1, hx400_2, hl400_2, hi400_2⟩ := at_T35 (Kd.N_reads' HO_387002.out).2.2 0 p400 q400
                      cases e400
                      obtain ⟨ce400, hce400, hMe400, hcc400⟩ := Kd.N_get HO_387002.out z35 0 p400 (by first | exact q400 | exact of_decide_eq_true (by first | (with_reducible assumption) | assumption) | (have e_ := (Kd.N_reads' HO_387002.out).1; omega))
                      obtain ⟨ua400_2, uc400_2, rfl, ul400_2, ge400_2⟩ := k35_openF hMe400
                      have hv400_2 := hcc400 2 _ rfl
                      rw [add_field _ _ 2 (by omega)] at hv400_2
                      replace hv400_2 := Option.some.inj (hv400_2.symm.trans hx400_2)
                      injection hv400_2 with hva_ hvn_ hvc_
                      rw [hva_] at ge400_2
                      rw [hvc_] at ul400_2
                      have HL400_2 := Aside0.mk (show Kd.V k35 35 _ w.heap.size _ _ ((rd_T35 x387002_1 0).f2) from Kd.V_mk ul400_2 ge400_2)
                      clear hva_ hvn_ hvc_ ge400_2 ul400_2
                      clear hcc400 hce400
                      have qi400 : (0 < x387002_1.length) = True := eq_true (by omega)
                      (try rw [show ((0 : Int)).toNat = 0 from rfl] at hx400_0)
                      (try rw [show 0 * 3 = 0 from rfl] at hx400_0)
                      (try rw [Addr.add_zero'] at hx400_0)
                      (try rw [show ((0 : Int)).toNat = 0 from rfl] at hx400_1)
                      (try rw [show 0 * 3 = 0 from rfl] at hx400_1)
                      (try rw [Addr.add_zero'] at hx400_1)
                      (try rw [show ((0 : Int)).toNat = 0 from rfl] at hx400_2)
                      (try rw [show 0 * 3 = 0 from rfl] at hx400_2)
                      (try rw [Addr.add_zero'] at hx400_2)
                      have HR400_2 := Aside0.mk hi400_2
                      have HC400_2 := Aside0.mk hl400_2
                      clear hi400_2 hl400_2
                      replace p400 := eq_true p400
                      replace q400 := eq_true q400
                      go_wp2_with (first | ((with_reducible refine gate_callee (f := 20) rfl ?_); refine goesL_ (some 56) rfl rfl Try.func20 (by kernel_rfl) rfl #[.agg #[.int .i64 ((rd_T35 x387002_1 0).f0), .int .i64 ((rd_T35 x387002_1 0).f1), .slice A400_2 ((rd_T35 x387002_1 0).f2).length c400_2], .int .i64 0, .int .i64 0, .int .i64 0] rfl (by (try simp only [List.map_toArray, List.map_cons, List.map_nil]); first | done | rfl | (simp only [List.length_drop, List.length_take]; rfl)) ?_; (with_reducible refine (headgateref21_Value.calls kj57 ((rd_T35 x387002_1 0).f0) ((rd_T35 x387002_1 0).f1) _ _ ((rd_T35 x387002_1 0).f2) 0 0 0 t401 _ ?side1 ?side2 A75.out).mono ?_); (case side1 => repeat (first | exact (by repeat (first | (with_reducible exact HR400_2.out) | (with_reducible refine Kd.C_alloc ?_ _) | (with_reducible refine Kd.C_drewN ?_ _) | (with_reducible refine Kd.C_drew ?_) | exact HR400_2.out)) | (with_reducible refine Kd.C_alloc ?_ _) | (with_reducible refine Kd.C_drewN ?_ _) | (with_reducible refine Kd.C_drew ?_))); (case side2 => exact HC400_2.out); rintro e w91 ⟨rfl, hb⟩; refine ⟨_, rfl, ?_⟩; have n0_ := Aside0.mk (Kd.V_below (by (with_reducible repeat (first | apply Kd.V_alloc | apply Kd.V_drewN | apply Kd.V_drew)); exact HO_385002.out) hb); have n1_ := Aside0.mk (Kd.N_below (by (with_reducible repeat (first | apply Kd.N_alloc | apply Kd.N_drewN | apply Kd.N_drew)); exact HO_387002.out) hb); have n2_ := Aside0.mk (Kd.V_below (by (with_reducible repeat (first | apply Kd.V_alloc | apply Kd.V_drewN | apply Kd.V_drew)); exact HL400_2.out) hb); have n3_ := Aside0.mk (blk_below (g := gb384) (o := .cells #[.int .i64 a0_0, .int .i64 a0_1, .slice A0_2 l0_2.length c0_2] 35 (0, 0)) (by (with_reducible repeat (first | refine blk_drewN ?_ _ | refine blk_drew ?_ | refine blk_alloc ?_ _)); exact BK384.out) hb); have n4_ := Aside0.mk (blk_below (g := gb385) (o := .cells #[.int .i64 0, .int .i64 0, .slice none 0 0] 35 (0, 0)) (by (with_reducible repeat (first | refine blk_drewN ?_ _ | refine blk_drew ?_ | refine blk_alloc ?_ _)); exact BK385.out) hb); have n5_ := Aside0.mk (blk_below (g := gb386) (o := .cells #[.int .i64 a0_0, .int .i64 a0_1, .slice (some ad400) x387002_1.length co90] 35 (0, 0)) (by (with_reducible repeat (first | refine blk_drewN ?_ _ | refine blk_drew ?_ | refine blk_alloc ?_ _)); exact BK386.out) hb); have n6_ := Aside0.mk (Kd.C_below (by repeat (first | (with_reducible exact HR400_2.out) | (with_reducible refine Kd.C_alloc ?_ _) | (with_reducible refine Kd.C_drewN ?_ _) | (with_reducible refine Kd.C_drew ?_) | exact HR400_2.out)) hb); have n7_ := Aside0.mk (below_step (by repeat (first | (with_reducible first | exact HB.out | apply below_alloc | apply pw_below_drewN | apply below_drew1 | refine below_set ?_ GE384.out | refine below_set ?_ GE385.out | refine below_set ?_ GE386.out) | exact HB.out)) hb); clear HO_385002; clear HO_387002; clear HL400_2; clear BK384; clear BK385; clear BK386; clear HR400_2; clear HB; have HO_385002 := n0_; have HO_387002 := n1_; have HL400_2 := n2_; have BK384 := n3_; have BK385 := n4_; have BK386 := n5_; have HR400_2 := n6_; have HB := n7_; clear n0_ n1_ n2_ n3_ n4_ n5_ n6_ n7_; (try clear hb); (try clear hb2); (try clear hk); (try clear hi); have hcz92_0 : w91.cell? ⟨gb386, 0, none⟩ = some (.int .i64 a0_0) := (blk_cell BK386.out 0).trans rfl; have hcz92_1 : w91.cell? ⟨gb386, 1, none⟩ = some (.int .i64 a0_1) := (blk_cell BK386.out 1).trans rfl; have hcz92_2 : w91.cell? ⟨gb386, 2, none⟩ = some (.slice (some ad400) x387002_1.length co90) := (blk_cell BK386.out 2).trans rfl; have hfz92_0 := blk_frozen BK386.out 0; have hfz92_1 := blk_frozen BK386.out 1; have hfz92_2 := blk_frozen BK386.out 2; have p403 : 0 ≤ (1 : Int) := (by omega); have q403 : 1 < (x387002_1.length : Int) := of_decide_eq_true (by first | (with_reducible assumption) | assumption); obtain ⟨ad403, A403_2, c403_2, e403, hx403_0, hx403_1, hx403_2, hl403_2, hi403_2⟩ := at_T35 (Kd.N_reads' HO_387002.out).2.2 1 p403 q403; obtain rfl : ad400 = ad403 := (by injection e403); obtain ⟨ce403, hce403, hMe403, hcc403⟩ := Kd.N_get HO_387002.out z35 1 p403 (by first | exact q403 | exact of_decide_eq_true (by first | (with_reducible assumption) | assumption) | (have e_ := (Kd.N_reads' HO_387002.out).1; omega)); obtain ⟨ua403_2, uc403_2, rfl, ul403_2, ge403_2⟩ := k35_openF hMe403; have hv403_2 := hcc403 2 _ rfl; rw [add_field _ _ 2 (by omega)] at hv403_2; replace hv403_2 := Option.some.inj (hv403_2.symm.trans hx403_2); injection hv403_2 with hva_ hvn_ hvc_; rw [hva_] at ge403_2; rw [hvc_] at ul403_2; have HL403_2 := Aside0.mk (show Kd.V k35 35 _ w.heap.size _ _ ((rd_T35 x387002_1 1).f2) from Kd.V_mk ul403_2 ge403_2); clear hva_ hvn_ hvc_ ge403_2 ul403_2; clear hcc403 hce403; (try simp only [show (1 : Int).toNat = 1 from rfl, Nat.reduceMul, Nat.reduceEqDiff, Go.Addr.add, ↓reduceIte] at hx403_0); (try simp only [show (1 : Int).toNat = 1 from rfl, Nat.reduceMul, Nat.reduceEqDiff, Go.Addr.add, ↓reduceIte] at hx403_1); (try simp only [show (1 : Int).toNat = 1 from rfl, Nat.reduceMul, Nat.reduceEqDiff, Go.Addr.add, ↓reduceIte] at hx403_2); have qi403 : (1 < x387002_1.length) = True := eq_true (by omega); (try rw [show ((1 : Int)).toNat = 1 from rfl] at hx403_0); (try rw [show 1 * 3 = 3 from rfl] at hx403_0); (try rw [show ((1 : Int)).toNat = 1 from rfl] at hx403_1); (try rw [show 1 * 3 = 3 from rfl] at hx403_1); (try rw [show ((1 : Int)).toNat = 1 from rfl] at hx403_2); (try rw [show 1 * 3 = 3 from rfl] at hx403_2); have HR403_2 := Aside0.mk hi403_2; have HC403_2 := Aside0.mk hl403_2; clear hi403_2 hl403_2; replace p403 := eq_true p403; replace q403 := eq_true q403; have hnb93 := NB385_384.out; have hnc93 := NB384_385.out; have hcz94_0 : w91.cell? ⟨gb385, 0, none⟩ = some (.int .i64 0) := (blk_cell BK385.out 0).trans rfl; have hcz94_1 : w91.cell? ⟨gb385, 1, none⟩ = some (.int .i64 0) := (blk_cell BK385.out 1).trans rfl; have hcz94_2 : w91.cell? ⟨gb385, 2, none⟩ = some (.slice none 0 0) := (blk_cell BK385.out 2).trans rfl; have hfz94_0 := blk_frozen BK385.out 0; have hfz94_1 := blk_frozen BK385.out 1; have hfz94_2 := blk_frozen BK385.out 2))
                      refine bodyPost_ret (results_cell_row rfl _ _ gb385 35 #[.int .i64 ((rd_T35 x387002_1 1).f0), .int .i64 ((rd_T35 x387002_1 1).f1), .slice A403_2 ((rd_T35 x387002_1 1).f2).length c403_2] (0, 0) _ rfl (by (with_reducible repeat (first | refine blk_drewN ?_ _ | refine blk_drew ?_ | refine blk_alloc ?_ _)); refine blk_put (cs := #[.int .i64 ((rd_T35 x387002_1 1).f0), .int .i64 ((rd_T35 x387002_1 1).f1), .slice none 0 0]) ?_ 2 _ rfl; (with_reducible repeat (first | refine blk_drewN ?_ _ | refine blk_drew ?_ | refine blk_alloc ?_ _)); refine blk_put (cs := #[.int .i64 ((rd_T35 x387002_1 1).f0), .int .i64 0, .slice none 0 0]) ?_ 1 _ rfl; (with_reducible repeat (first | refine blk_drewN ?_ _ | refine blk_drew ?_ | refine blk_alloc ?_ _)); refine blk_put (cs := #[.int .i64 0, .int .i64 0, .slice none 0 0]) ?_ 0 _ rfl; (with_reducible repeat (first | refine blk_drewN ?_ _ | refine blk_drew ?_ | refine blk_alloc ?_ _)); exact BK385.out) Try.underlying35 rfl (by kernel_rfl)) rfl ?_
                      exact ⟨_, by first | rfl | (simp [errW_none, errW_some] <;> rfl) | (simp [*, errW_none, errW_some] <;> rfl), by (with_reducible repeat (first | apply Kd.V_alloc | apply Kd.V_drewN | apply Kd.V_drew)); exact Kd.V_mono (Kd.V_far (p := ⟨gb385, 2, none⟩) (Kd.V_far (p := ⟨gb385, 1, none⟩) (Kd.V_far (p := ⟨gb385, 0, none⟩) (Kd.V_mono HL403_2.out (fun k_ hk => (⟨hk, hk.1.2.2.1⟩ : _ ∧ k_ ≠ gb385))) (fun _ hk => hk.2) (.int .i64 ((rd_T35 x387002_1 1).f0))) (fun _ hk => hk.2) (.int .i64 ((rd_T35 x387002_1 1).f1))) (fun _ hk => hk.2) (.slice A403_2 ((rd_T35 x387002_1 1).f2).length c403_2)) (fun _ hk => hk.1.1.1), by repeat (first | (with_reducible first | exact HB.out | apply below_alloc | apply pw_below_drewN | apply below_drew1 | refine below_set ?_ GE384.out | refine below_set ?_ GE385.out | refine below_set ?_ GE386.out) | exact HB.out)⟩
                    · rw [if_neg c86] at H
                      exact absurd H (by simp)
                · rw [if_neg c74] at H
                  exact absurd H (by simp)
              · replace c73 := Bool.eq_false_iff.mpr c73
                subst c73
                have H1 : (if x4_1 = true then ((headgateref21_Constant.f a0_0 a0_1 x387002_1).bind fun t404 => (headgateref21_reckon.j2 kj57 t404 a0_0 a0_1 x387002_1)) else (headgateref21_reckon.j2 kj57 true a0_0 a0_1 x387002_1)) = some (r1, r2, r3) := by rw [if_neg (show ¬ (false = true) by decide)] at H; exact H
                clear H
                have H := H1
                clear H1
                have HC95 := Aside0.mk H
                clear H
                go_upto_region 15 with (fail)
                go_cut [71] (fun v71 wc => ∃ (kq : Nat) (x71_94 : Bool), v71 = .bool x71_94 ∧ Aside0 (headgateref21_reckon.j2 kq x71_94 a0_0 a0_1 x387002_1 = some (r1, r2, r3)) ∧ Aside0 (kq ≤ kj57) ∧ Aside0 (Kd.V k35 35 wc w.heap.size (fun k_ => (P0_2_ k_ ∨ w.heap.size ≤ k_) ∧ some k_ ≠ (u387002 : Value).ownBlock ∧ k_ ≠ gb384 ∧ k_ ≠ gb385 ∧ k_ ≠ gb386) (.slice A0_2 l0_2.length c0_2) l0_2) ∧ Aside0 (Kd.N k35 35 wc w.heap.size (fun k_ => (P0_2_ k_ ∨ w.heap.size ≤ k_) ∧ k_ ≠ gb384 ∧ k_ ≠ gb385 ∧ k_ ≠ gb386) u387002 x387002_1) ∧ Aside0 (wc.heap[gb384]? = some (.cells #[.int .i64 a0_0, .int .i64 a0_1, (.slice A0_2 l0_2.length c0_2)] 35 (0, 0))) ∧ Aside0 (wc.heap[gb385]? = some (.cells #[.int .i64 0, .int .i64 0, (.slice none 0 0)] 35 (0, 0))) ∧ Aside0 (wc.heap[gb386]? = some (.cells #[.int .i64 a0_0, .int .i64 a0_1, u387002] 35 (0, 0))) ∧ Aside0 (Below w.heap.size w wc))
                case first =>
                  have H := HC95.out
                  clear HC95
                  by_cases c96 : x4_1 = true
                  · subst c96
                    have H1 : ((headgateref21_Constant.f a0_0 a0_1 x387002_1).bind fun t404 => (headgateref21_reckon.j2 kj57 t404 a0_0 a0_1 x387002_1)) = some (r1, r2, r3) := by rw [if_pos rfl] at H; exact H
                    clear H
                    have H := H1
                    clear H1
                    replace H := Option.bind_eq_some_iff.mp H
                    obtain ⟨t404, A970, H⟩ := H
                    replace H : (headgateref21_reckon.j2 kj57 t404 a0_0 a0_1 x387002_1) = some (r1, r2, r3) := H
                    have A97 := Aside0.mk A970
                    clear A970
                    have H' := Aside0.mk H
                    clear H
                    have hnb98 := NB386_384.out
                    have hnc98 := NB384_386.out
                    have hnb99 := NB386_385.out
                    have hnc99 := NB385_386.out
                    have hcz100_0 : wc.cell? ⟨gb386, 0, none⟩ = some (.int .i64 a0_0) := (blk_cell BK386.out 0).trans rfl
                    have hcz100_1 : wc.cell? ⟨gb386, 1, none⟩ = some (.int .i64 a0_1) := (blk_cell BK386.out 1).trans rfl
                    have hcz100_2 : wc.cell? ⟨gb386, 2, none⟩ = some (u387002) := (blk_cell BK386.out 2).trans rfl
                    have hfz100_0 := blk_frozen BK386.out 0
                    have hfz100_1 := blk_frozen BK386.out 1
                    have hfz100_2 := blk_frozen BK386.out 2
                    obtain ⟨Ao101, co101, eo101⟩ := Kd.N_slice HO_387002.out
                    subst eo101
                    go_wp2_with (first | (go_at_call 51; (with_reducible refine (headgateref21_Constant.calls a0_0 a0_1 _ _ x387002_1 t404 _ ?side1 ?side2 A97.out).mono ?_); (case side1 => repeat (first | exact (Kd.N_reads' HO_387002.out).2.2 | (with_reducible refine Kd.C_alloc ?_ _) | (with_reducible refine Kd.C_drewN ?_ _) | (with_reducible refine Kd.C_drew ?_))); (case side2 => exact (Kd.N_reads' HO_387002.out).2.1); rintro e w102 ⟨rfl, hb⟩; have n0_ := Aside0.mk (Kd.V_below (by (with_reducible repeat (first | apply Kd.V_alloc | apply Kd.V_drewN | apply Kd.V_drew)); exact HO_385002.out) hb); have n1_ := Aside0.mk (Kd.N_below (by (with_reducible repeat (first | apply Kd.N_alloc | apply Kd.N_drewN | apply Kd.N_drew)); exact HO_387002.out) hb); have n2_ := Aside0.mk (blk_below (g := gb384) (o := .cells #[.int .i64 a0_0, .int .i64 a0_1, .slice A0_2 l0_2.length c0_2] 35 (0, 0)) (by (with_reducible repeat (first | refine blk_drewN ?_ _ | refine blk_drew ?_ | refine blk_alloc ?_ _)); exact BK384.out) hb); have n3_ := Aside0.mk (blk_below (g := gb385) (o := .cells #[.int .i64 0, .int .i64 0, .slice none 0 0] 35 (0, 0)) (by (with_reducible repeat (first | refine blk_drewN ?_ _ | refine blk_drew ?_ | refine blk_alloc ?_ _)); exact BK385.out) hb); have n4_ := Aside0.mk (blk_below (g := gb386) (o := .cells #[.int .i64 a0_0, .int .i64 a0_1, .slice Ao101 x387002_1.length co101] 35 (0, 0)) (by (with_reducible repeat (first | refine blk_drewN ?_ _ | refine blk_drew ?_ | refine blk_alloc ?_ _)); exact BK386.out) hb); have n5_ := Aside0.mk (below_step (by repeat (first | (with_reducible first | exact HB.out | apply below_alloc | apply pw_below_drewN | apply below_drew1 | refine below_set ?_ GE384.out | refine below_set ?_ GE385.out | refine below_set ?_ GE386.out) | exact HB.out)) hb); clear HO_385002; clear HO_387002; clear BK384; clear BK385; clear BK386; clear HB; have HO_385002 := n0_; have HO_387002 := n1_; have BK384 := n2_; have BK385 := n3_; have BK386 := n4_; have HB := n5_; clear n0_ n1_ n2_ n3_ n4_ n5_; (try clear hb); (try clear hb2); (try clear hk); (try clear hi)))
                    go_meet
                    case rel => exact ⟨_, (t404), (by first | rfl | (simp; done) | (simp [*]; done)), H', ⟨by have := HK1.out; have := HJ57.out; first | omega | exact Nat.le_refl _⟩, ⟨by (with_reducible repeat (first | apply Kd.V_alloc | apply Kd.V_drewN | apply Kd.V_drew)); exact HO_385002.out⟩, ⟨by (with_reducible repeat (first | apply Kd.N_alloc | apply Kd.N_drewN | apply Kd.N_drew)); exact HO_387002.out⟩, ⟨by (with_reducible repeat (first | refine blk_drewN ?_ _ | refine blk_drew ?_ | refine blk_alloc ?_ _)); exact BK384.out⟩, ⟨by (with_reducible repeat (first | refine blk_drewN ?_ _ | refine blk_drew ?_ | refine blk_alloc ?_ _)); exact BK385.out⟩, ⟨by (with_reducible repeat (first | refine blk_drewN ?_ _ | refine blk_drew ?_ | refine blk_alloc ?_ _)); exact BK386.out⟩, ⟨by repeat (first | (with_reducible first | exact HB.out | apply below_alloc | apply pw_below_drewN | apply below_drew1 | refine below_set ?_ GE384.out | refine below_set ?_ GE385.out | refine below_set ?_ GE386.out) | exact HB.out)⟩⟩
                  · replace c96 := Bool.eq_false_iff.mpr c96
                    subst c96
                    have H1 : (headgateref21_reckon.j2 kj57 true a0_0 a0_1 x387002_1) = some (r1, r2, r3) := by rw [if_neg (show ¬ (false = true) by decide)] at H; exact H
                    clear H
                    have H := H1
                    clear H1
                    have H' := Aside0.mk H
                    clear H
                    go_wp2
                    go_meet
                    case rel => exact ⟨_, (true), (by first | rfl | (simp; done) | (simp [*]; done)), H', ⟨by have := HK1.out; have := HJ57.out; first | omega | exact Nat.le_refl _⟩, ⟨by (with_reducible repeat (first | apply Kd.V_alloc | apply Kd.V_drewN | apply Kd.V_drew)); exact HO_385002.out⟩, ⟨by (with_reducible repeat (first | apply Kd.N_alloc | apply Kd.N_drewN | apply Kd.N_drew)); exact HO_387002.out⟩, ⟨by (with_reducible repeat (first | refine blk_drewN ?_ _ | refine blk_drew ?_ | refine blk_alloc ?_ _)); exact BK384.out⟩, ⟨by (with_reducible repeat (first | refine blk_drewN ?_ _ | refine blk_drew ?_ | refine blk_alloc ?_ _)); exact BK385.out⟩, ⟨by (with_reducible repeat (first | refine blk_drewN ?_ _ | refine blk_drew ?_ | refine blk_alloc ?_ _)); exact BK386.out⟩, ⟨by repeat (first | (with_reducible first | exact HB.out | apply below_alloc | apply pw_below_drewN | apply below_drew1 | refine below_set ?_ GE384.out | refine below_set ?_ GE385.out | refine below_set ?_ GE386.out) | exact HB.out)⟩⟩
                case rest =>
                  clear HC95
                  try clear c1
                  try clear c2
                  try clear c2b0
                  try clear c2b1
                  try clear c2b2
                  try clear p2
                  try clear c3
                  try clear p3
                  try clear q3
                  try clear hx3
                  try clear qi3
                  try clear c4
                  try clear p4
                  try clear q4
                  try clear hx4
                  try clear qi4
                  try clear c5
                  try clear c6
                  try clear p6
                  try clear c7
                  try clear c8
                  try clear c9
                  try clear c10
                  try clear c13
                  try clear c14
                  try clear c16
                  try clear c16b0
                  try clear c17
                  try clear c17b0
                  try clear c19
                  try clear c20
                  try clear c22
                  try clear c23
                  try clear c27
                  try clear c28
                  try clear c29
                  try clear c33
                  try clear c37
                  try clear c38
                  try clear p38
                  try clear q38
                  try clear hx38
                  try clear c39
                  try clear p39
                  try clear q39
                  try clear hx39
                  try clear qi39
                  try clear c40
                  try clear p40
                  try clear q40
                  try clear hx40
                  try clear qi40
                  try clear c41
                  try clear c42
                  try clear c46
                  try clear c47
                  try clear c48
                  try clear c52
                  try clear c59
                  try clear c60
                  try clear c62
                  try clear c62b0
                  try clear c62b1
                  try clear c63
                  try clear c63b0
                  try clear c63b1
                  try clear p64
                  try clear c65
                  try clear c66
                  try clear c70
                  try clear c71
                  try clear c73
                  try clear c74
                  try clear c74b0
                  try clear c74b1
                  try clear c76
                  try clear c76b0
                  try clear c76b1
                  try clear c77
                  try clear c77b0
                  try clear c77b1
                  try clear c78
                  try clear c79
                  try clear c84
                  try clear c86
                  try clear c86b0
                  try clear c86b1
                  try clear c87
                  try clear c88
                  try clear c93
                  try clear c96
                  try clear c98
                  try clear c99
                  try clear hcz100_0
                  try clear hcz100_1
                  try clear hcz100_2
                  try clear hcz11_0
                  try clear hcz11_1
                  try clear hcz11_2
                  try clear hcz15_0
                  try clear hcz15_1
                  try clear hcz15_2
                  try clear hcz24_0
                  try clear hcz24_1
                  try clear hcz24_2
                  try clear hcz30_0
                  try clear hcz30_1
                  try clear hcz30_2
                  try clear hcz34_0
                  try clear hcz34_1
                  try clear hcz34_2
                  try clear hcz35_0
                  try clear hcz35_1
                  try clear hcz35_2
                  try clear hcz38_0
                  try clear hcz38_1
                  try clear hcz38_2
                  try clear hcz39_0
                  try clear hcz39_1
                  try clear hcz39_2
                  try clear hcz43_0
                  try clear hcz43_1
                  try clear hcz43_2
                  try clear hcz49_0
                  try clear hcz49_1
                  try clear hcz49_2
                  try clear hcz53_0
                  try clear hcz53_1
                  try clear hcz53_2
                  try clear hcz54_0
                  try clear hcz54_1
                  try clear hcz54_2
                  try clear hcz57_0
                  try clear hcz57_1
                  try clear hcz57_2
                  try clear hcz61_0
                  try clear hcz61_1
                  try clear hcz61_2
                  try clear hcz67_0
                  try clear hcz67_1
                  try clear hcz67_2
                  try clear hcz6_0
                  try clear hcz6_1
                  try clear hcz6_2
                  try clear hcz72_0
                  try clear hcz72_1
                  try clear hcz72_2
                  try clear hcz7_0
                  try clear hcz7_1
                  try clear hcz7_2
                  try clear hcz80_0
                  try clear hcz80_1
                  try clear hcz80_2
                  try clear hcz83_0
                  try clear hcz83_1
                  try clear hcz83_2
                  try clear hcz85_0
                  try clear hcz85_1
                  try clear hcz85_2
                  try clear hcz89_0
                  try clear hcz89_1
                  try clear hcz89_2
                  try clear hcz92_0
                  try clear hcz92_1
                  try clear hcz92_2
                  try clear hcz94_0
                  try clear hcz94_1
                  try clear hcz94_2
                  try clear hfz100_0
                  try clear hfz100_1
                  try clear hfz100_2
                  try clear hfz11_0
                  try clear hfz11_1
                  try clear hfz11_2
                  try clear hfz15_0
                  try clear hfz15_1
                  try clear hfz15_2
                  try clear hfz24_0
                  try clear hfz24_1
                  try clear hfz24_2
                  try clear hfz30_0
                  try clear hfz30_1
                  try clear hfz30_2
                  try clear hfz34_0
                  try clear hfz34_1
                  try clear hfz34_2
                  try clear hfz35_0
                  try clear hfz35_1
                  try clear hfz35_2
                  try clear hfz38_0
                  try clear hfz38_1
                  try clear hfz38_2
                  try clear hfz39_0
                  try clear hfz39_1
                  try clear hfz39_2
                  try clear hfz43_0
                  try clear hfz43_1
                  try clear hfz43_2
                  try clear hfz49_0
                  try clear hfz49_1
                  try clear hfz49_2
                  try clear hfz53_0
                  try clear hfz53_1
                  try clear hfz53_2
                  try clear hfz54_0
                  try clear hfz54_1
                  try clear hfz54_2
                  try clear hfz57_0
                  try clear hfz57_1
                  try clear hfz57_2
                  try clear hfz61_0
                  try clear hfz61_1
                  try clear hfz61_2
                  try clear hfz67_0
                  try clear hfz67_1
                  try clear hfz67_2
                  try clear hfz6_0
                  try clear hfz6_1
                  try clear hfz6_2
                  try clear hfz72_0
                  try clear hfz72_1
                  try clear hfz72_2
                  try clear hfz7_0
                  try clear hfz7_1
                  try clear hfz7_2
                  try clear hfz80_0
                  try clear hfz80_1
                  try clear hfz80_2
                  try clear hfz83_0
                  try clear hfz83_1
                  try clear hfz83_2
                  try clear hfz85_0
                  try clear hfz85_1
                  try clear hfz85_2
                  try clear hfz89_0
                  try clear hfz89_1
                  try clear hfz89_2
                  try clear hfz92_0
                  try clear hfz92_1
                  try clear hfz92_2
                  try clear hfz94_0
                  try clear hfz94_1
                  try clear hfz94_2
                  try clear hx387_0
                  try clear hx387_1
                  try clear hx387_2
                  try clear hx398_0
                  try clear hx398_1
                  try clear hx398_2
                  try clear hx400_0
                  try clear hx400_1
                  try clear hx400_2
                  try clear hx402_0
                  try clear hx402_1
                  try clear hx402_2
                  try clear hx403_0
                  try clear hx403_1
                  try clear hx403_2
                  try clear p2
                  try clear p3
                  try clear p38
                  try clear p387
                  try clear p39
                  try clear p398
                  try clear p400
                  try clear p402
                  try clear p403
                  try clear p6
                  try clear p64
                  try clear q3
                  try clear q38
                  try clear q387
                  try clear q39
                  try clear q398
                  try clear q400
                  try clear q402
                  try clear q403
                  obtain ⟨kq, x71_94, rfl, HA, HJ94, HO_385002, HO_387002, BK384, BK385, BK386, HB⟩ := hcut
                  cases kq with
                  | zero => exact absurd HA.out (by simp [headgateref21_reckon.j2])
                  | succ kj94 =>
                    have H := HA.out
                    clear HA
                    simp only [headgateref21_reckon.j2] at H
                    by_cases c103 : x71_94 = true
                    · subst c103
                      have H1 : (some (a0_0, a0_1, x387002_1)) = some (r1, r2, r3) := by rw [if_pos rfl] at H; exact H
                      clear H
                      have H := H1
                      clear H1
                      simp only [Option.some.injEq, Prod.mk.injEq] at H
                      obtain ⟨rfl, rfl, rfl⟩ := H
                      have hnb104 := NB386_384.out
                      have hnc104 := NB384_386.out
                      have hnb105 := NB386_385.out
                      have hnc105 := NB385_386.out
                      have hcz106_0 : wc.cell? ⟨gb386, 0, none⟩ = some (.int .i64 a0_0) := (blk_cell BK386.out 0).trans rfl
                      have hcz106_1 : wc.cell? ⟨gb386, 1, none⟩ = some (.int .i64 a0_1) := (blk_cell BK386.out 1).trans rfl
                      have hcz106_2 : wc.cell? ⟨gb386, 2, none⟩ = some (u387002) := (blk_cell BK386.out 2).trans rfl
                      have hfz106_0 := blk_frozen BK386.out 0
                      have hfz106_1 := blk_frozen BK386.out 1
                      have hfz106_2 := blk_frozen BK386.out 2
                      have hnb107 := NB385_384.out
                      have hnc107 := NB384_385.out
                      have hcz108_0 : wc.cell? ⟨gb385, 0, none⟩ = some (.int .i64 0) := (blk_cell BK385.out 0).trans rfl
                      have hcz108_1 : wc.cell? ⟨gb385, 1, none⟩ = some (.int .i64 0) := (blk_cell BK385.out 1).trans rfl
                      have hcz108_2 : wc.cell? ⟨gb385, 2, none⟩ = some (.slice none 0 0) := (blk_cell BK385.out 2).trans rfl
                      have hfz108_0 := blk_frozen BK385.out 0
                      have hfz108_1 := blk_frozen BK385.out 1
                      have hfz108_2 := blk_frozen BK385.out 2
                      obtain ⟨Ao109, co109, eo109⟩ := Kd.N_slice HO_387002.out
                      subst eo109
                      go_wp2
                      refine bodyPost_ret (results_cell_row rfl _ _ gb385 35 #[.int .i64 a0_0, .int .i64 a0_1, .slice Ao109 x387002_1.length co109] (0, 0) _ rfl (by (with_reducible repeat (first | refine blk_drewN ?_ _ | refine blk_drew ?_ | refine blk_alloc ?_ _)); refine blk_put (cs := #[.int .i64 a0_0, .int .i64 a0_1, .slice none 0 0]) ?_ 2 _ rfl; (with_reducible repeat (first | refine blk_drewN ?_ _ | refine blk_drew ?_ | refine blk_alloc ?_ _)); refine blk_put (cs := #[.int .i64 a0_0, .int .i64 0, .slice none 0 0]) ?_ 1 _ rfl; (with_reducible repeat (first | refine blk_drewN ?_ _ | refine blk_drew ?_ | refine blk_alloc ?_ _)); refine blk_put (cs := #[.int .i64 0, .int .i64 0, .slice none 0 0]) ?_ 0 _ rfl; (with_reducible repeat (first | refine blk_drewN ?_ _ | refine blk_drew ?_ | refine blk_alloc ?_ _)); exact BK385.out) Try.underlying35 rfl (by kernel_rfl)) rfl ?_
                      exact ⟨_, by first | rfl | (simp [errW_none, errW_some] <;> rfl) | (simp [*, errW_none, errW_some] <;> rfl), Kd.N_V (by (with_reducible repeat (first | apply Kd.N_alloc | apply Kd.N_drewN | apply Kd.N_drew)); exact Kd.N_mono (Kd.N_far (p := ⟨gb385, 2, none⟩) (Kd.N_far (p := ⟨gb385, 1, none⟩) (Kd.N_far (p := ⟨gb385, 0, none⟩) (Kd.N_mono HO_387002.out (fun k_ hk => (⟨hk, hk.2.2.1⟩ : _ ∧ k_ ≠ gb385))) (fun _ hk => hk.2) (.int .i64 a0_0)) (fun _ hk => hk.2) (.int .i64 a0_1)) (fun _ hk => hk.2) (.slice Ao109 x387002_1.length co109)) (fun _ hk => hk.1.1)), by repeat (first | (with_reducible first | exact HB.out | apply below_alloc | apply pw_below_drewN | apply below_drew1 | refine below_set ?_ GE384.out | refine below_set ?_ GE385.out | refine below_set ?_ GE386.out) | exact HB.out)⟩
                    · replace c103 := Bool.eq_false_iff.mpr c103
                      subst c103
                      have H1 : ((headgateref21_Value.f kj94 a0_0 a0_1 x387002_1 0 0 0).bind fun t405 => (if t405 ≥ 0 then (some (1, t405, ([] : List (S35)))) else (if (wrap64 (-t405)) < 0 then (some (a0_0, a0_1, x387002_1)) else (some (5, 0, (([(⟨1, wrap64 (-t405), ([] : List (S35))⟩ : S35)] : List (S35)))))))) = some (r1, r2, r3) := by rw [if_neg (show ¬ (false = true) by decide)] at H; exact H
                      clear H
                      have H := H1
                      clear H1
                      replace H := Option.bind_eq_some_iff.mp H
                      obtain ⟨t405, A1100, H⟩ := H
                      replace H : (if t405 ≥ 0 then (some (1, t405, ([] : List (S35)))) else (if (wrap64 (-t405)) < 0 then (some (a0_0, a0_1, x387002_1)) else (some (5, 0, (([(⟨1, wrap64 (-t405), ([] : List (S35))⟩ : S35)] : List (S35))))))) = some (r1, r2, r3) := H
                      have A110 := Aside0.mk A1100
                      clear A1100
                      by_cases c111 : t405 ≥ 0
                      · rw [if_pos c111] at H
                        have c111b0 : decide (0 ≤ t405) = true := decide_eq_true c111
                        clear c111
                        simp only [Option.some.injEq, Prod.mk.injEq] at H
                        obtain ⟨rfl, rfl, rfl⟩ := H
                        have hnb112 := NB386_384.out
                        have hnc112 := NB384_386.out
                        have hnb113 := NB386_385.out
                        have hnc113 := NB385_386.out
                        have hcz114_0 : wc.cell? ⟨gb386, 0, none⟩ = some (.int .i64 a0_0) := (blk_cell BK386.out 0).trans rfl
                        have hcz114_1 : wc.cell? ⟨gb386, 1, none⟩ = some (.int .i64 a0_1) := (blk_cell BK386.out 1).trans rfl
                        have hcz114_2 : wc.cell? ⟨gb386, 2, none⟩ = some (u387002) := (blk_cell BK386.out 2).trans rfl
                        have hfz114_0 := blk_frozen BK386.out 0
                        have hfz114_1 := blk_frozen BK386.out 1
                        have hfz114_2 := blk_frozen BK386.out 2
                        obtain ⟨Ao115, co115, eo115⟩ := Kd.N_slice HO_387002.out
                        subst eo115
                        go_wp2_with (first | ((with_reducible refine gate_callee (f := 20) rfl ?_); refine goesL_ (some 74) rfl rfl Try.func20 (by kernel_rfl) rfl #[.agg #[.int .i64 a0_0, .int .i64 a0_1, .slice Ao115 x387002_1.length co115], .int .i64 0, .int .i64 0, .int .i64 0] rfl (by (try simp only [List.map_toArray, List.map_cons, List.map_nil]); first | done | rfl | (simp only [List.length_drop, List.length_take]; rfl)) ?_; (with_reducible refine (headgateref21_Value.calls kj94 a0_0 a0_1 _ _ x387002_1 0 0 0 t405 _ ?side1 ?side2 A110.out).mono ?_); (case side1 => repeat (first | exact (Kd.N_reads' HO_387002.out).2.2 | (with_reducible refine Kd.C_alloc ?_ _) | (with_reducible refine Kd.C_drewN ?_ _) | (with_reducible refine Kd.C_drew ?_))); (case side2 => exact (Kd.N_reads' HO_387002.out).2.1); rintro e w116 ⟨rfl, hb⟩; refine ⟨_, rfl, ?_⟩; have n0_ := Aside0.mk (Kd.V_below (by (with_reducible repeat (first | apply Kd.V_alloc | apply Kd.V_drewN | apply Kd.V_drew)); exact HO_385002.out) hb); have n1_ := Aside0.mk (Kd.N_below (by (with_reducible repeat (first | apply Kd.N_alloc | apply Kd.N_drewN | apply Kd.N_drew)); exact HO_387002.out) hb); have n2_ := Aside0.mk (blk_below (g := gb384) (o := .cells #[.int .i64 a0_0, .int .i64 a0_1, .slice A0_2 l0_2.length c0_2] 35 (0, 0)) (by (with_reducible repeat (first | refine blk_drewN ?_ _ | refine blk_drew ?_ | refine blk_alloc ?_ _)); exact BK384.out) hb); have n3_ := Aside0.mk (blk_below (g := gb385) (o := .cells #[.int .i64 0, .int .i64 0, .slice none 0 0] 35 (0, 0)) (by (with_reducible repeat (first | refine blk_drewN ?_ _ | refine blk_drew ?_ | refine blk_alloc ?_ _)); exact BK385.out) hb); have n4_ := Aside0.mk (blk_below (g := gb386) (o := .cells #[.int .i64 a0_0, .int .i64 a0_1, .slice Ao115 x387002_1.length co115] 35 (0, 0)) (by (with_reducible repeat (first | refine blk_drewN ?_ _ | refine blk_drew ?_ | refine blk_alloc ?_ _)); exact BK386.out) hb); have n5_ := Aside0.mk (below_step (by repeat (first | (with_reducible first | exact HB.out | apply below_alloc | apply pw_below_drewN | apply below_drew1 | refine below_set ?_ GE384.out | refine below_set ?_ GE385.out | refine below_set ?_ GE386.out) | exact HB.out)) hb); clear HO_385002; clear HO_387002; clear BK384; clear BK385; clear BK386; clear HB; have HO_385002 := n0_; have HO_387002 := n1_; have BK384 := n2_; have BK385 := n3_; have BK386 := n4_; have HB := n5_; clear n0_ n1_ n2_ n3_ n4_ n5_; (try clear hb); (try clear hb2); (try clear hk); (try clear hi); have hnb117 := NB385_384.out; have hnc117 := NB384_385.out; have hcz118_0 : w116.cell? ⟨gb385, 0, none⟩ = some (.int .i64 0) := (blk_cell BK385.out 0).trans rfl; have hcz118_1 : w116.cell? ⟨gb385, 1, none⟩ = some (.int .i64 0) := (blk_cell BK385.out 1).trans rfl; have hcz118_2 : w116.cell? ⟨gb385, 2, none⟩ = some (.slice none 0 0) := (blk_cell BK385.out 2).trans rfl; have hfz118_0 := blk_frozen BK385.out 0; have hfz118_1 := blk_frozen BK385.out 1; have hfz118_2 := blk_frozen BK385.out 2))
                        refine bodyPost_ret (results_cell_row rfl _ _ gb385 35 #[.int .i64 1, .int .i64 t405, .slice none 0 0] (0, 0) _ rfl (by (with_reducible repeat (first | refine blk_drewN ?_ _ | refine blk_drew ?_ | refine blk_alloc ?_ _)); refine blk_put (cs := #[.int .i64 1, .int .i64 t405, .slice none 0 0]) ?_ 2 _ rfl; (with_reducible repeat (first | refine blk_drewN ?_ _ | refine blk_drew ?_ | refine blk_alloc ?_ _)); refine blk_put (cs := #[.int .i64 1, .int .i64 0, .slice none 0 0]) ?_ 1 _ rfl; (with_reducible repeat (first | refine blk_drewN ?_ _ | refine blk_drew ?_ | refine blk_alloc ?_ _)); refine blk_put (cs := #[.int .i64 0, .int .i64 0, .slice none 0 0]) ?_ 0 _ rfl; (with_reducible repeat (first | refine blk_drewN ?_ _ | refine blk_drew ?_ | refine blk_alloc ?_ _)); exact BK385.out) Try.underlying35 rfl (by kernel_rfl)) rfl ?_
                        exact ⟨_, by first | rfl | (simp [errW_none, errW_some] <;> rfl) | (simp [*, errW_none, errW_some] <;> rfl), Kd.N_V (by first | exact Kd.R_nil _ _ _ _ _ | exact Kd.N_nil _ _ _ _ _ | exact Kd.V_nil _ _ _ _ _ | exact Kd.Q_nil _ _ _ _ _ | exact Kd.S_nil _ _ _ _ _ | exact Kd.N_nil _ _ _ w.heap.size _), by repeat (first | (with_reducible first | exact HB.out | apply below_alloc | apply pw_below_drewN | apply below_drew1 | refine below_set ?_ GE384.out | refine below_set ?_ GE385.out | refine below_set ?_ GE386.out) | exact HB.out)⟩
                      · rw [if_neg c111] at H
                        have c111b0 : decide (0 ≤ t405) = false := decide_eq_false c111
                        clear c111
                        by_cases c119 : (wrap64 (-t405)) < 0
                        · rw [if_pos c119] at H
                          have c119b0 : decide ((wrap64 (-t405)) < 0) = true := decide_eq_true c119
                          clear c119
                          simp only [Option.some.injEq, Prod.mk.injEq] at H
                          obtain ⟨rfl, rfl, rfl⟩ := H
                          have hnb120 := NB386_384.out
                          have hnc120 := NB384_386.out
                          have hnb121 := NB386_385.out
                          have hnc121 := NB385_386.out
                          have hcz122_0 : wc.cell? ⟨gb386, 0, none⟩ = some (.int .i64 a0_0) := (blk_cell BK386.out 0).trans rfl
                          have hcz122_1 : wc.cell? ⟨gb386, 1, none⟩ = some (.int .i64 a0_1) := (blk_cell BK386.out 1).trans rfl
                          have hcz122_2 : wc.cell? ⟨gb386, 2, none⟩ = some (u387002) := (blk_cell BK386.out 2).trans rfl
                          have hfz122_0 := blk_frozen BK386.out 0
                          have hfz122_1 := blk_frozen BK386.out 1
                          have hfz122_2 := blk_frozen BK386.out 2
                          obtain ⟨Ao123, co123, eo123⟩ := Kd.N_slice HO_387002.out
                          subst eo123
                          go_wp2_with (first | ((with_reducible refine gate_callee (f := 20) rfl ?_); refine goesL_ (some 74) rfl rfl Try.func20 (by kernel_rfl) rfl #[.agg #[.int .i64 a0_0, .int .i64 a0_1, .slice Ao123 x387002_1.length co123], .int .i64 0, .int .i64 0, .int .i64 0] rfl (by (try simp only [List.map_toArray, List.map_cons, List.map_nil]); first | done | rfl | (simp only [List.length_drop, List.length_take]; rfl)) ?_; (with_reducible refine (headgateref21_Value.calls kj94 a0_0 a0_1 _ _ x387002_1 0 0 0 t405 _ ?side1 ?side2 A110.out).mono ?_); (case side1 => repeat (first | exact (Kd.N_reads' HO_387002.out).2.2 | (with_reducible refine Kd.C_alloc ?_ _) | (with_reducible refine Kd.C_drewN ?_ _) | (with_reducible refine Kd.C_drew ?_))); (case side2 => exact (Kd.N_reads' HO_387002.out).2.1); rintro e w124 ⟨rfl, hb⟩; refine ⟨_, rfl, ?_⟩; have n0_ := Aside0.mk (Kd.V_below (by (with_reducible repeat (first | apply Kd.V_alloc | apply Kd.V_drewN | apply Kd.V_drew)); exact HO_385002.out) hb); have n1_ := Aside0.mk (Kd.N_below (by (with_reducible repeat (first | apply Kd.N_alloc | apply Kd.N_drewN | apply Kd.N_drew)); exact HO_387002.out) hb); have n2_ := Aside0.mk (blk_below (g := gb384) (o := .cells #[.int .i64 a0_0, .int .i64 a0_1, .slice A0_2 l0_2.length c0_2] 35 (0, 0)) (by (with_reducible repeat (first | refine blk_drewN ?_ _ | refine blk_drew ?_ | refine blk_alloc ?_ _)); exact BK384.out) hb); have n3_ := Aside0.mk (blk_below (g := gb385) (o := .cells #[.int .i64 0, .int .i64 0, .slice none 0 0] 35 (0, 0)) (by (with_reducible repeat (first | refine blk_drewN ?_ _ | refine blk_drew ?_ | refine blk_alloc ?_ _)); exact BK385.out) hb); have n4_ := Aside0.mk (blk_below (g := gb386) (o := .cells #[.int .i64 a0_0, .int .i64 a0_1, .slice Ao123 x387002_1.length co123] 35 (0, 0)) (by (with_reducible repeat (first | refine blk_drewN ?_ _ | refine blk_drew ?_ | refine blk_alloc ?_ _)); exact BK386.out) hb); have n5_ := Aside0.mk (below_step (by repeat (first | (with_reducible first | exact HB.out | apply below_alloc | apply pw_below_drewN | apply below_drew1 | refine below_set ?_ GE384.out | refine below_set ?_ GE385.out | refine below_set ?_ GE386.out) | exact HB.out)) hb); clear HO_385002; clear HO_387002; clear BK384; clear BK385; clear BK386; clear HB; have HO_385002 := n0_; have HO_387002 := n1_; have BK384 := n2_; have BK385 := n3_; have BK386 := n4_; have HB := n5_; clear n0_ n1_ n2_ n3_ n4_ n5_; (try clear hb); (try clear hb2); (try clear hk); (try clear hi); have hcz125_0 : w124.cell? ⟨gb386, 0, none⟩ = some (.int .i64 a0_0) := (blk_cell BK386.out 0).trans rfl; have hcz125_1 : w124.cell? ⟨gb386, 1, none⟩ = some (.int .i64 a0_1) := (blk_cell BK386.out 1).trans rfl; have hcz125_2 : w124.cell? ⟨gb386, 2, none⟩ = some (.slice Ao123 x387002_1.length co123) := (blk_cell BK386.out 2).trans rfl; have hfz125_0 := blk_frozen BK386.out 0; have hfz125_1 := blk_frozen BK386.out 1; have hfz125_2 := blk_frozen BK386.out 2; have hnb126 := NB385_384.out; have hnc126 := NB384_385.out; have hcz127_0 : w124.cell? ⟨gb385, 0, none⟩ = some (.int .i64 0) := (blk_cell BK385.out 0).trans rfl; have hcz127_1 : w124.cell? ⟨gb385, 1, none⟩ = some (.int .i64 0) := (blk_cell BK385.out 1).trans rfl; have hcz127_2 : w124.cell? ⟨gb385, 2, none⟩ = some (.slice none 0 0) := (blk_cell BK385.out 2).trans rfl; have hfz127_0 := blk_frozen BK385.out 0; have hfz127_1 := blk_frozen BK385.out 1; have hfz127_2 := blk_frozen BK385.out 2))
                          refine bodyPost_ret (results_cell_row rfl _ _ gb385 35 #[.int .i64 a0_0, .int .i64 a0_1, .slice Ao123 x387002_1.length co123] (0, 0) _ rfl (by (with_reducible repeat (first | refine blk_drewN ?_ _ | refine blk_drew ?_ | refine blk_alloc ?_ _)); refine blk_put (cs := #[.int .i64 a0_0, .int .i64 a0_1, .slice none 0 0]) ?_ 2 _ rfl; (with_reducible repeat (first | refine blk_drewN ?_ _ | refine blk_drew ?_ | refine blk_alloc ?_ _)); refine blk_put (cs := #[.int .i64 a0_0, .int .i64 0, .slice none 0 0]) ?_ 1 _ rfl; (with_reducible repeat (first | refine blk_drewN ?_ _ | refine blk_drew ?_ | refine blk_alloc ?_ _)); refine blk_put (cs := #[.int .i64 0, .int .i64 0, .slice none 0 0]) ?_ 0 _ rfl; (with_reducible repeat (first | refine blk_drewN ?_ _ | refine blk_drew ?_ | refine blk_alloc ?_ _)); exact BK385.out) Try.underlying35 rfl (by kernel_rfl)) rfl ?_
                          exact ⟨_, by first | rfl | (simp [errW_none, errW_some] <;> rfl) | (simp [*, errW_none, errW_some] <;> rfl), Kd.N_V (by (with_reducible repeat (first | apply Kd.N_alloc | apply Kd.N_drewN | apply Kd.N_drew)); exact Kd.N_mono (Kd.N_far (p := ⟨gb385, 2, none⟩) (Kd.N_far (p := ⟨gb385, 1, none⟩) (Kd.N_far (p := ⟨gb385, 0, none⟩) (Kd.N_mono HO_387002.out (fun k_ hk => (⟨hk, hk.2.2.1⟩ : _ ∧ k_ ≠ gb385))) (fun _ hk => hk.2) (.int .i64 a0_0)) (fun _ hk => hk.2) (.int .i64 a0_1)) (fun _ hk => hk.2) (.slice Ao123 x387002_1.length co123)) (fun _ hk => hk.1.1)), by repeat (first | (with_reducible first | exact HB.out | apply below_alloc | apply pw_below_drewN | apply below_drew1 | refine below_set ?_ GE384.out | refine below_set ?_ GE385.out | refine below_set ?_ GE386.out) | exact HB.out)⟩
                        · rw [if_neg c119] at H
                          have c119b0 : decide ((wrap64 (-t405)) < 0) = false := decide_eq_false c119
                          clear c119
                          obtain ⟨y406, hy406⟩ : ∃ y_ : List (S35), y_ = (([(⟨1, wrap64 (-t405), ([] : List (S35))⟩ : S35)] : List (S35))) := ⟨_, rfl⟩
                          replace H : (some (5, 0, y406)) = some (r1, r2, r3) := by first | (rw [hy406]; with_reducible exact H) | (have H2_ := (Option.bind_some _ _).symm.trans H; rw [hy406]; with_reducible exact H2_) | (have H2_ := (Option.bind_some _ _).symm.trans H; with_reducible exact H2_) | with_reducible exact H | (rw [hy406]; exact H) | exact H
                          have Ny406 := Aside0.mk hy406
                          clear hy406
                          simp only [Option.some.injEq, Prod.mk.injEq] at H
                          obtain ⟨rfl, rfl, rfl⟩ := H
                          have hnb128 := NB386_384.out
                          have hnc128 := NB384_386.out
                          have hnb129 := NB386_385.out
                          have hnc129 := NB385_386.out
                          have hcz130_0 : wc.cell? ⟨gb386, 0, none⟩ = some (.int .i64 a0_0) := (blk_cell BK386.out 0).trans rfl
                          have hcz130_1 : wc.cell? ⟨gb386, 1, none⟩ = some (.int .i64 a0_1) := (blk_cell BK386.out 1).trans rfl
                          have hcz130_2 : wc.cell? ⟨gb386, 2, none⟩ = some (u387002) := (blk_cell BK386.out 2).trans rfl
                          have hfz130_0 := blk_frozen BK386.out 0
                          have hfz130_1 := blk_frozen BK386.out 1
                          have hfz130_2 := blk_frozen BK386.out 2
                          obtain ⟨Ao131, co131, eo131⟩ := Kd.N_slice HO_387002.out
                          subst eo131
                          go_wp2_with (first | ((with_reducible refine gate_callee (f := 20) rfl ?_); refine goesL_ (some 74) rfl rfl Try.func20 (by kernel_rfl) rfl #[.agg #[.int .i64 a0_0, .int .i64 a0_1, .slice Ao131 x387002_1.length co131], .int .i64 0, .int .i64 0, .int .i64 0] rfl (by (try simp only [List.map_toArray, List.map_cons, List.map_nil]); first | done | rfl | (simp only [List.length_drop, List.length_take]; rfl)) ?_; (with_reducible refine (headgateref21_Value.calls kj94 a0_0 a0_1 _ _ x387002_1 0 0 0 t405 _ ?side1 ?side2 A110.out).mono ?_); (case side1 => repeat (first | exact (Kd.N_reads' HO_387002.out).2.2 | (with_reducible refine Kd.C_alloc ?_ _) | (with_reducible refine Kd.C_drewN ?_ _) | (with_reducible refine Kd.C_drew ?_))); (case side2 => exact (Kd.N_reads' HO_387002.out).2.1); rintro e w132 ⟨rfl, hb⟩; refine ⟨_, rfl, ?_⟩; have n0_ := Aside0.mk (Kd.V_below (by (with_reducible repeat (first | apply Kd.V_alloc | apply Kd.V_drewN | apply Kd.V_drew)); exact HO_385002.out) hb); have n1_ := Aside0.mk (Kd.N_below (by (with_reducible repeat (first | apply Kd.N_alloc | apply Kd.N_drewN | apply Kd.N_drew)); exact HO_387002.out) hb); have n2_ := Aside0.mk (blk_below (g := gb384) (o := .cells #[.int .i64 a0_0, .int .i64 a0_1, .slice A0_2 l0_2.length c0_2] 35 (0, 0)) (by (with_reducible repeat (first | refine blk_drewN ?_ _ | refine blk_drew ?_ | refine blk_alloc ?_ _)); exact BK384.out) hb); have n3_ := Aside0.mk (blk_below (g := gb385) (o := .cells #[.int .i64 0, .int .i64 0, .slice none 0 0] 35 (0, 0)) (by (with_reducible repeat (first | refine blk_drewN ?_ _ | refine blk_drew ?_ | refine blk_alloc ?_ _)); exact BK385.out) hb); have n4_ := Aside0.mk (blk_below (g := gb386) (o := .cells #[.int .i64 a0_0, .int .i64 a0_1, .slice Ao131 x387002_1.length co131] 35 (0, 0)) (by (with_reducible repeat (first | refine blk_drewN ?_ _ | refine blk_drew ?_ | refine blk_alloc ?_ _)); exact BK386.out) hb); have n5_ := Aside0.mk (below_step (by repeat (first | (with_reducible first | exact HB.out | apply below_alloc | apply pw_below_drewN | apply below_drew1 | refine below_set ?_ GE384.out | refine below_set ?_ GE385.out | refine below_set ?_ GE386.out) | exact HB.out)) hb); clear HO_385002; clear HO_387002; clear BK384; clear BK385; clear BK386; clear HB; have HO_385002 := n0_; have HO_387002 := n1_; have BK384 := n2_; have BK385 := n3_; have BK386 := n4_; have HB := n5_; clear n0_ n1_ n2_ n3_ n4_ n5_; (try clear hb); (try clear hb2); (try clear hk); (try clear hi)) | ((with_reducible refine gate_dst (N := 86) rfl ?_); refine Kd.N_lit k35 _ 35 ?hg (N' := 86) ?hd (xs := ([(⟨1, wrap64 (-t405), ([] : List (S35))⟩ : S35)] : List (S35))) (inner := [.int .i64 1, .int .i64 (wrap64 (-t405)), .slice none 0 0]) (ok := (fun k_ => (P0_2_ k_ ∨ w.heap.size ≤ k_) ∧ some k_ ≠ (.slice Ao131 x387002_1.length co131 : Value).ownBlock ∧ k_ ≠ gb384 ∧ k_ ≠ gb385 ∧ k_ ≠ gb386)) (okp := (fun k_ => (P0_2_ k_ ∨ w.heap.size ≤ k_) ∧ some k_ ≠ (.slice Ao131 x387002_1.length co131 : Value).ownBlock ∧ k_ ≠ gb384 ∧ k_ ≠ gb385 ∧ k_ ≠ gb386)) ?hr ?hp (fun _ hk => hk) ((show ∀ k_, w132.heap.size ≤ k_ → (fun k_ => (P0_2_ k_ ∨ w.heap.size ≤ k_) ∧ some k_ ≠ (.slice Ao131 x387002_1.length co131 : Value).ownBlock ∧ k_ ≠ gb384 ∧ k_ ≠ gb385 ∧ k_ ≠ gb386) k_ from fun k_ hk => ⟨(.inr (Nat.le_trans (below_size (by repeat (first | (with_reducible first | exact HB.out | apply below_alloc | apply pw_below_drewN | apply below_drew1 | refine below_set ?_ GE384.out | refine below_set ?_ GE385.out | refine below_set ?_ GE386.out) | exact HB.out))) hk)), Kd.fresh' (Kd.N_lt (by (with_reducible repeat (first | apply Kd.N_alloc | apply Kd.N_drewN | apply Kd.N_drew)); exact HO_387002.out)) k_ hk, Kd.freshB (g := gb384) (o := .cells #[.int .i64 a0_0, .int .i64 a0_1, .slice A0_2 l0_2.length c0_2] 35 (0, 0)) (by (with_reducible repeat (first | refine blk_drewN ?_ _ | refine blk_drew ?_ | refine blk_alloc ?_ _)); exact BK384.out) k_ hk, Kd.freshB (g := gb385) (o := .cells #[.int .i64 0, .int .i64 0, .slice none 0 0] 35 (0, 0)) (by (with_reducible repeat (first | refine blk_drewN ?_ _ | refine blk_drew ?_ | refine blk_alloc ?_ _)); exact BK385.out) k_ hk, Kd.freshB (g := gb386) (o := .cells #[.int .i64 a0_0, .int .i64 a0_1, .slice Ao131 x387002_1.length co131] 35 (0, 0)) (by (with_reducible repeat (first | refine blk_drewN ?_ _ | refine blk_drew ?_ | refine blk_alloc ?_ _)); exact BK386.out) k_ hk⟩) _ (Nat.le_refl _)) (Below.refl _ _) (Nat.le_refl _) (by simp) ?_; (case hd => rfl); (case hg => rfl); (case hr => first | (go_simp; done) | (go_simp; rfl)); (case hp => exact (Reps.c3 (show Kd.FK k35 _ _ (⟨1, wrap64 (-t405), ([] : List (S35))⟩ : S35) [.int .i64 1, .int .i64 (wrap64 (-t405)), .slice none 0 0] from (k35_mkF _ _ (⟨1, wrap64 (-t405), ([] : List (S35))⟩ : S35) (Nat.le_refl _) (Kd.F_nil _ _ _))) (Reps.none _ _))); intro v407 w133 ho134 hb hg_ hnew_; clear hg_ hnew_; (first | rw [← Ny406.out] at ho134 | (simp only [Int.reduceToNat] at ho134; rw [← Ny406.out] at ho134)); have n0_ := Aside0.mk (Kd.V_elder' (by (with_reducible repeat (first | apply Kd.V_alloc | apply Kd.V_drewN | apply Kd.V_drew)); exact HO_385002.out) (Kd.N_base ho134) hb); have n1_ := Aside0.mk (Kd.N_elder' (by (with_reducible repeat (first | apply Kd.N_alloc | apply Kd.N_drewN | apply Kd.N_drew)); exact HO_387002.out) (Kd.N_base ho134) hb); have n2_ := Aside0.mk (Kd.N_lower ho134 (below_size (by repeat (first | (with_reducible first | exact HB.out | apply below_alloc | apply pw_below_drewN | apply below_drew1 | refine below_set ?_ GE384.out | refine below_set ?_ GE385.out | refine below_set ?_ GE386.out) | exact HB.out)))); have n3_ := Aside0.mk (blk_below (g := gb384) (o := .cells #[.int .i64 a0_0, .int .i64 a0_1, .slice A0_2 l0_2.length c0_2] 35 (0, 0)) (by (with_reducible repeat (first | refine blk_drewN ?_ _ | refine blk_drew ?_ | refine blk_alloc ?_ _)); exact BK384.out) hb); have n4_ := Aside0.mk (blk_below (g := gb385) (o := .cells #[.int .i64 0, .int .i64 0, .slice none 0 0] 35 (0, 0)) (by (with_reducible repeat (first | refine blk_drewN ?_ _ | refine blk_drew ?_ | refine blk_alloc ?_ _)); exact BK385.out) hb); have n5_ := Aside0.mk (blk_below (g := gb386) (o := .cells #[.int .i64 a0_0, .int .i64 a0_1, .slice Ao131 x387002_1.length co131] 35 (0, 0)) (by (with_reducible repeat (first | refine blk_drewN ?_ _ | refine blk_drew ?_ | refine blk_alloc ?_ _)); exact BK386.out) hb); have n6_ := Aside0.mk (below_step (by repeat (first | (with_reducible first | exact HB.out | apply below_alloc | apply pw_below_drewN | apply below_drew1 | refine below_set ?_ GE384.out | refine below_set ?_ GE385.out | refine below_set ?_ GE386.out) | exact HB.out)) hb); clear HO_385002; clear HO_387002; clear BK384; clear BK385; clear BK386; clear HB; have HO_385002 := n0_; have HO_387002 := n1_; have HO408 := n2_; have BK384 := n3_; have BK385 := n4_; have BK386 := n5_; have HB := n6_; clear n0_ n1_ n2_ n3_ n4_ n5_ n6_; clear hb ho134; obtain ⟨Ao135, co135, eo135⟩ := Kd.N_slice HO408.out; subst eo135; have hnb136 := NB385_384.out; have hnc136 := NB384_385.out; have hcz137_0 : w133.cell? ⟨gb385, 0, none⟩ = some (.int .i64 0) := (blk_cell BK385.out 0).trans rfl; have hcz137_1 : w133.cell? ⟨gb385, 1, none⟩ = some (.int .i64 0) := (blk_cell BK385.out 1).trans rfl; have hcz137_2 : w133.cell? ⟨gb385, 2, none⟩ = some (.slice none 0 0) := (blk_cell BK385.out 2).trans rfl; have hfz137_0 := blk_frozen BK385.out 0; have hfz137_1 := blk_frozen BK385.out 1; have hfz137_2 := blk_frozen BK385.out 2))
                          refine bodyPost_ret (results_cell_row rfl _ _ gb385 35 #[.int .i64 5, .int .i64 0, .slice Ao135 y406.length co135] (0, 0) _ rfl (by (with_reducible repeat (first | refine blk_drewN ?_ _ | refine blk_drew ?_ | refine blk_alloc ?_ _)); refine blk_put (cs := #[.int .i64 5, .int .i64 0, .slice none 0 0]) ?_ 2 _ rfl; (with_reducible repeat (first | refine blk_drewN ?_ _ | refine blk_drew ?_ | refine blk_alloc ?_ _)); refine blk_put (cs := #[.int .i64 5, .int .i64 0, .slice none 0 0]) ?_ 1 _ rfl; (with_reducible repeat (first | refine blk_drewN ?_ _ | refine blk_drew ?_ | refine blk_alloc ?_ _)); refine blk_put (cs := #[.int .i64 0, .int .i64 0, .slice none 0 0]) ?_ 0 _ rfl; (with_reducible repeat (first | refine blk_drewN ?_ _ | refine blk_drew ?_ | refine blk_alloc ?_ _)); exact BK385.out) Try.underlying35 rfl (by kernel_rfl)) rfl ?_
                          exact ⟨_, by first | rfl | (simp [errW_none, errW_some] <;> rfl) | (simp [*, errW_none, errW_some] <;> rfl), Kd.N_V (by (with_reducible repeat (first | apply Kd.N_alloc | apply Kd.N_drewN | apply Kd.N_drew)); exact Kd.N_mono (Kd.N_far (p := ⟨gb385, 2, none⟩) (Kd.N_far (p := ⟨gb385, 1, none⟩) (Kd.N_far (p := ⟨gb385, 0, none⟩) (Kd.N_mono HO408.out (fun k_ hk => (⟨hk, hk.2.2.2.1⟩ : _ ∧ k_ ≠ gb385))) (fun _ hk => hk.2) (.int .i64 5)) (fun _ hk => hk.2) (.int .i64 0)) (fun _ hk => hk.2) (.slice Ao135 y406.length co135)) (fun _ hk => hk.1.1)), by repeat (first | (with_reducible first | exact HB.out | apply below_alloc | apply pw_below_drewN | apply below_drew1 | refine below_set ?_ GE384.out | refine below_set ?_ GE385.out | refine below_set ?_ GE386.out) | exact HB.out)⟩

end Go.Proofs.Ytekbcfgcojecmaa.P
