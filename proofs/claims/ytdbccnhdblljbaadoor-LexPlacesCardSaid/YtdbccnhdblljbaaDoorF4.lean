-- Written by this session's program drv.py, by means of the kit's printer; not a text of print.sh.
import Derived.Test.YtdbccnhdblljbaaDoorF0
import Derived.Test.YtdbccnhdblljbaaDoorF19
import Derived.Test.YtdbccnhdblljbaaDoorF22
namespace Go.Proofs.YtdbccnhdblljbaaDoor.P
open Go.RowKit Go.Proofs.YtdbccnhdblljbaaDoorW.PrintWords Go.Proofs.YtdbccnhdblljbaaDoorW.PrintLast Go.Proofs.YtdbccnhdblljbaaDoorW.PrintMore
attribute [local go_sem] max2_int min2_int max_two min_two max_three min_three max_four min_four   -- for this text's walks alone
set_option linter.unusedVariables false
set_option linter.unusedSimpArgs false

/-! ### headgatelaw20_LexOrder: function 4 -/
mutual
def headgatelaw20_LexOrder.j0 : Nat → ByteArray → Option (Bool)
  | 0, _ => none
  | k + 1, x0 => (lex_Cut.f k x0).bind fun bt167 => (if bt167.2.2 = 0 then (headgatelaw20_LexOrder.l0 k x0 bt167.1 0 0) else (if (bt167.1.length : Int) = 0 then ((headgatelaw20_awake.f k).bind fun t172 => (some t172)) else (some false)))
def headgatelaw20_LexOrder.l0 : Nat → ByteArray → List (S32) → Int → Int → Option (Bool)
  | 0, _, _, _, _ => none
  | k + 1, x0, x3, x6, x7 => if x7 < (x3.length : Int) then (if 0 ≤ x7 then (if ((rd_T32 x3 x7).f3) < x6 then (headgatelaw20_LexOrder.j2 k x0 x3 x7 true ((rd_T32 x3 x7).f0) ((rd_T32 x3 x7).f1) ((rd_T32 x3 x7).f2) ((rd_T32 x3 x7).f3)) else (if ((rd_T32 x3 x7).f3) ≥ (x0.size : Int) then (headgatelaw20_LexOrder.j2 k x0 x3 x7 true ((rd_T32 x3 x7).f0) ((rd_T32 x3 x7).f1) ((rd_T32 x3 x7).f2) ((rd_T32 x3 x7).f3)) else (if ((rd_T32 x3 x7).f0) < 1 then (headgatelaw20_LexOrder.j2 k x0 x3 x7 true ((rd_T32 x3 x7).f0) ((rd_T32 x3 x7).f1) ((rd_T32 x3 x7).f2) ((rd_T32 x3 x7).f3)) else (if ((rd_T32 x3 x7).f0) > 3 then (headgatelaw20_LexOrder.j2 k x0 x3 x7 true ((rd_T32 x3 x7).f0) ((rd_T32 x3 x7).f1) ((rd_T32 x3 x7).f2) ((rd_T32 x3 x7).f3)) else (headgatelaw20_LexOrder.j2 k x0 x3 x7 ((((rd_T32 x3 x7).f0) == 1) != (((rd_T32 x3 x7).f2).toList == ([] : List UInt8))) ((rd_T32 x3 x7).f0) ((rd_T32 x3 x7).f1) ((rd_T32 x3 x7).f2) ((rd_T32 x3 x7).f3)))))) else (none)) else ((headgatelaw20_awake.f k).bind fun t173 => (some t173))
def headgatelaw20_LexOrder.j2 : Nat → ByteArray → List (S32) → Int → Bool → Int → Int → ByteArray → Int → Option (Bool)
  | 0, _, _, _, _, _, _, _, _ => none
  | k + 1, x0, x3, x7, x67, x176000, x176001, x176002, x176003 => if x67 = true then (some false) else (if (wrap64 (x176003 + (mx 1 (x176002.size : Int)))) > (x0.size : Int) then (some false) else (if x176002.toList = ([] : List UInt8) then (if 0 ≤ x176003 then (if x176003 < (x0.size : Int) then (if (bt x0 x176003) < 48 then (some false) else (if (bt x0 x176003) > 57 then (some false) else (headgatelaw20_LexOrder.l0 k x0 x3 (wrap64 (x176003 + (mx 1 (x176002.size : Int)))) (wrap64 (x7 + 1))))) else (none)) else (none)) else (if 0 ≤ x176003 then (if x176003 ≤ (wrap64 (x176003 + (mx 1 (x176002.size : Int)))) then (if (wrap64 (x176003 + (mx 1 (x176002.size : Int)))) ≤ (x0.size : Int) then (if (x0.extract (x176003 : Int).toNat ((wrap64 (x176003 + (mx 1 (x176002.size : Int)))) : Int).toNat).toList = x176002.toList then (headgatelaw20_LexOrder.l0 k x0 x3 (wrap64 (x176003 + (mx 1 (x176002.size : Int)))) (wrap64 (x7 + 1))) else (some false)) else (none)) else (none)) else (none))))
end
def headgatelaw20_LexOrder.f (k : Nat) (a0 : ByteArray) : Option (Bool) := if (a0.size : Int) > 6000 then (if 6000 ≤ (a0.size : Int) then (headgatelaw20_LexOrder.j0 k (a0.extract 0 6000)) else (none)) else (headgatelaw20_LexOrder.j0 k a0)
theorem headgatelaw20_LexOrder.mono_l : ∀ k, (∀ y0, LeO (headgatelaw20_LexOrder.j0 k y0) (headgatelaw20_LexOrder.j0 (k + 1) y0)) ∧ (∀ y0 y1 y2 y3, LeO (headgatelaw20_LexOrder.l0 k y0 y1 y2 y3) (headgatelaw20_LexOrder.l0 (k + 1) y0 y1 y2 y3)) ∧ (∀ y0 y1 y2 y3 y4 y5 y6 y7, LeO (headgatelaw20_LexOrder.j2 k y0 y1 y2 y3 y4 y5 y6 y7) (headgatelaw20_LexOrder.j2 (k + 1) y0 y1 y2 y3 y4 y5 y6 y7))
  | 0 => ⟨fun _ r h => by simp [headgatelaw20_LexOrder.j0] at h, fun _ _ _ _ r h => by simp [headgatelaw20_LexOrder.l0] at h, fun _ _ _ _ _ _ _ _ r h => by simp [headgatelaw20_LexOrder.j2] at h⟩
  | k + 1 => by
    obtain ⟨ih0, ih1, ih2⟩ := headgatelaw20_LexOrder.mono_l k
    refine ⟨?_, ?_, ?_⟩
    · intro y0
      unfold headgatelaw20_LexOrder.j0
      repeat' first
      | (with_reducible exact ih0 _)
      | (with_reducible exact ih1 _ _ _ _)
      | (with_reducible exact ih2 _ _ _ _ _ _ _ _)
      | (with_reducible exact headgatelaw20_awake.mono _)
      | (with_reducible exact lex_Cut.mono _ _)
      | (with_reducible exact LeO.refl _)
      | (with_reducible exact LeO.none _)
      | (with_reducible refine LeO.ite ?_ ?_)
      | (with_reducible refine LeO.bind ?_ (fun _ => ?_))
      | exact ih0 _
      | exact ih1 _ _ _ _
      | exact ih2 _ _ _ _ _ _ _ _
      | exact headgatelaw20_awake.mono _
      | exact lex_Cut.mono _ _
      | exact LeO.none _
      | refine LeO.ite ?_ ?_
      | refine LeO.bind ?_ (fun _ => ?_)
    · intro y0 y1 y2 y3
      unfold headgatelaw20_LexOrder.l0
      repeat' first
      | (with_reducible exact ih0 _)
      | (with_reducible exact ih1 _ _ _ _)
      | (with_reducible exact ih2 _ _ _ _ _ _ _ _)
      | (with_reducible exact headgatelaw20_awake.mono _)
      | (with_reducible exact lex_Cut.mono _ _)
      | (with_reducible exact LeO.refl _)
      | (with_reducible exact LeO.none _)
      | (with_reducible refine LeO.ite ?_ ?_)
      | (with_reducible refine LeO.bind ?_ (fun _ => ?_))
      | exact ih0 _
      | exact ih1 _ _ _ _
      | exact ih2 _ _ _ _ _ _ _ _
      | exact headgatelaw20_awake.mono _
      | exact lex_Cut.mono _ _
      | exact LeO.none _
      | refine LeO.ite ?_ ?_
      | refine LeO.bind ?_ (fun _ => ?_)
    · intro y0 y1 y2 y3 y4 y5 y6 y7
      unfold headgatelaw20_LexOrder.j2
      repeat' first
      | (with_reducible exact ih0 _)
      | (with_reducible exact ih1 _ _ _ _)
      | (with_reducible exact ih2 _ _ _ _ _ _ _ _)
      | (with_reducible exact headgatelaw20_awake.mono _)
      | (with_reducible exact lex_Cut.mono _ _)
      | (with_reducible exact LeO.refl _)
      | (with_reducible exact LeO.none _)
      | (with_reducible refine LeO.ite ?_ ?_)
      | (with_reducible refine LeO.bind ?_ (fun _ => ?_))
      | exact ih0 _
      | exact ih1 _ _ _ _
      | exact ih2 _ _ _ _ _ _ _ _
      | exact headgatelaw20_awake.mono _
      | exact lex_Cut.mono _ _
      | exact LeO.none _
      | refine LeO.ite ?_ ?_
      | refine LeO.bind ?_ (fun _ => ?_)
theorem headgatelaw20_LexOrder.mono : ∀ a0 k, LeO (headgatelaw20_LexOrder.f k a0) (headgatelaw20_LexOrder.f (k + 1) a0) := by
  intro a0 k
  obtain ⟨ih0, ih1, ih2⟩ := headgatelaw20_LexOrder.mono_l k
  unfold headgatelaw20_LexOrder.f
  repeat' first
      | (with_reducible exact ih0 _)
      | (with_reducible exact ih1 _ _ _ _)
      | (with_reducible exact ih2 _ _ _ _ _ _ _ _)
      | (with_reducible exact headgatelaw20_awake.mono _)
      | (with_reducible exact lex_Cut.mono _ _)
      | (with_reducible exact LeO.refl _)
      | (with_reducible exact LeO.none _)
      | (with_reducible refine LeO.ite ?_ ?_)
      | (with_reducible refine LeO.bind ?_ (fun _ => ?_))
      | exact ih0 _
      | exact ih1 _ _ _ _
      | exact ih2 _ _ _ _ _ _ _ _
      | exact headgatelaw20_awake.mono _
      | exact lex_Cut.mono _ _
      | exact LeO.none _
      | refine LeO.ite ?_ ?_
      | refine LeO.bind ?_ (fun _ => ?_)
set_option maxHeartbeats 8000000 in
set_option maxRecDepth 100000 in
theorem headgatelaw20_LexOrder.calls (k : Nat) (a0 : ByteArray) (r : Bool) (w : World) (h : headgatelaw20_LexOrder.f k a0 = some r) :
    Calls Tryd.prog 4 #[.string a0] w fun e w' => e = .returned (.bool r) ∧ Below w.heap.size w w' := by
  have hu32 := Tryd.underlying32
  have HB := Aside0.mk (Below.refl w.heap.size w)
  have H : (if (a0.size : Int) > 6000 then (if 6000 ≤ (a0.size : Int) then (headgatelaw20_LexOrder.j0 k (a0.extract 0 6000)) else (none)) else (headgatelaw20_LexOrder.j0 k a0)) = some r := h
  clear h
  have HC2 := Aside0.mk H
  clear H
  go_enter Tryd.func4, Tryd.ntmps4
  go_upto_if 11 with (fail)
  repeat (go_quiet (fail); go_upto_if 11 with (fail))
  go_cut [0] (fun v0 wc => ∃ (kq : Nat) (x0_1 : ByteArray), v0 = .string x0_1 ∧ Aside0 (headgatelaw20_LexOrder.j0 kq x0_1 = some r) ∧ Aside0 (kq ≤ k) ∧ Aside0 (Below w.heap.size w wc))
  case first =>
    have H := HC2.out
    clear HC2
    by_cases c3 : (a0.size : Int) > 6000
    · rw [if_pos c3] at H
      have c3b0 : decide (6000 < (a0.size : Int)) = true := decide_eq_true c3
      have c3b1 : decide (6000 < a0.size) = true := decide_eq_true (by omega)
      clear c3
      (first | rw [c3b0] | (simp only [i64_w, i32_w]; rw [c3b0]) | skip)
      by_cases c4 : 6000 ≤ (a0.size : Int)
      · rw [if_pos c4] at H
        have c4b0 := eq_true c4
        have c4b1 : decide (6000 ≤ (a0.size : Int)) = true := decide_eq_true c4
        clear c4
        have H' := Aside0.mk H
        clear H
        go_wp2
        repeat (go_quiet (fail); try go_wp2)
        go_meet
        case rel => exact ⟨_, (a0.extract 0 6000), (by first | rfl | (simp; done) | (simp [*]; done) | (simp; grind)), H', ⟨by first | omega | exact Nat.le_refl _⟩, ⟨by repeat (first | (with_reducible first | exact HB.out | apply below_alloc | apply pw_below_drewN | apply below_drew1) | exact HB.out)⟩⟩
      · rw [if_neg c4] at H
        exact absurd H (by simp)
    · rw [if_neg c3] at H
      have c3b0 : decide (6000 < (a0.size : Int)) = false := decide_eq_false c3
      have c3b1 : decide (6000 < a0.size) = false := decide_eq_false (by omega)
      clear c3
      (first | rw [c3b0] | (simp only [i64_w, i32_w]; rw [c3b0]) | skip)
      have H' := Aside0.mk H
      clear H
      go_wp2
      repeat (go_quiet (fail); try go_wp2)
      go_meet
      case rel => exact ⟨_, (a0), (by first | rfl | (simp; done) | (simp [*]; done) | (simp; grind)), H', ⟨by first | omega | exact Nat.le_refl _⟩, ⟨by repeat (first | (with_reducible first | exact HB.out | apply below_alloc | apply pw_below_drewN | apply below_drew1) | exact HB.out)⟩⟩
  case rest =>
    clear HC2
    try clear p2
    try clear c3
    try clear c3b0
    try clear c3b1
    try clear c4
    try clear c4b0
    try clear c4b1
    obtain ⟨kq, x0_1, rfl, HA, HJ1, HB⟩ := hcut
    cases kq with
    | zero => exact absurd HA.out (by simp [headgatelaw20_LexOrder.j0])
    | succ kj1 =>
      have H := HA.out
      clear HA
      simp only [headgatelaw20_LexOrder.j0] at H
      replace H := Option.bind_eq_some_iff.mp H
      obtain ⟨⟨t167, t168, t169⟩, A50, H⟩ := H
      replace H : (if t169 = 0 then (headgatelaw20_LexOrder.l0 kj1 x0_1 t167 0 0) else (if (t167.length : Int) = 0 then ((headgatelaw20_awake.f kj1).bind fun t172 => (some t172)) else (some false))) = some r := H
      have A5 := Aside0.mk A50
      clear A50
      by_cases c6 : t169 = 0
      · rw [if_pos c6] at H
        have c6b0 : (t169 == 0) = true := beq_iff_eq.mpr c6
        have c6b1 : (t169 != 0) = false := bne_eq_false_iff_eq.mpr c6
        clear c6
        have H' := Aside0.mk H
        clear H
        go_wp2_with (first | (go_at_call 19; (with_reducible refine (lex_Cut.calls kj1 x0_1 t167 t168 t169 _ A5.out).mono ?_); rintro e w7 ⟨v170, rfl, ho0, hb⟩; have n0_ := Aside0.mk (Kd.R_lower ho0 (below_size (by repeat (first | (with_reducible first | exact HB.out | apply below_alloc | apply pw_below_drewN | apply below_drew1) | exact HB.out)))); have n1_ := Aside0.mk (below_step (by repeat (first | (with_reducible first | exact HB.out | apply below_alloc | apply pw_below_drewN | apply below_drew1) | exact HB.out)) hb); clear HB; have HO171 := n0_; have HB := n1_; clear n0_ n1_; (try clear hb); (try clear hb2); (try clear hk); (try clear hi); (try clear ho0)))
        repeat (go_quiet (first | (go_at_call 19; (with_reducible refine (lex_Cut.calls kj1 x0_1 t167 t168 t169 _ A5.out).mono ?_); rintro e w7 ⟨v170, rfl, ho0, hb⟩; have n0_ := Aside0.mk (Kd.R_lower ho0 (below_size (by repeat (first | (with_reducible first | exact HB.out | apply below_alloc | apply pw_below_drewN | apply below_drew1) | exact HB.out)))); have n1_ := Aside0.mk (below_step (by repeat (first | (with_reducible first | exact HB.out | apply below_alloc | apply pw_below_drewN | apply below_drew1) | exact HB.out)) hb); clear HB; have HO171 := n0_; have HB := n1_; clear n0_ n1_; (try clear hb); (try clear hb2); (try clear hk); (try clear hi); (try clear ho0))); try go_wp2_with (first | (go_at_call 19; (with_reducible refine (lex_Cut.calls kj1 x0_1 t167 t168 t169 _ A5.out).mono ?_); rintro e w7 ⟨v170, rfl, ho0, hb⟩; have n0_ := Aside0.mk (Kd.R_lower ho0 (below_size (by repeat (first | (with_reducible first | exact HB.out | apply below_alloc | apply pw_below_drewN | apply below_drew1) | exact HB.out)))); have n1_ := Aside0.mk (below_step (by repeat (first | (with_reducible first | exact HB.out | apply below_alloc | apply pw_below_drewN | apply below_drew1) | exact HB.out)) hb); clear HB; have HO171 := n0_; have HB := n1_; clear n0_ n1_; (try clear hb); (try clear hb2); (try clear hk); (try clear hi); (try clear ho0))))
        (try simp only [Act.put, List.setIfInBounds_toArray, List.set_cons_zero, List.set_cons_succ])
        go_loopg [6, 7] kj1 (fun kq v6 v7 w' => ∃ (x6_2 : Int) (x7_2 : Int), v6 = .int .i64 x6_2 ∧ v7 = .int .i64 x7_2 ∧ Aside0 (headgatelaw20_LexOrder.l0 kq x0_1 t167 x6_2 x7_2 = some r) ∧ Aside0 (kq ≤ kj1) ∧ Aside0 (Kd.R k32 32 w' w.heap.size (fun _ => True) v170 t167) ∧ Aside0 (Below w.heap.size w w'))
        case atStart => exact ⟨(0), (0), (by first | rfl | (simp; done) | (simp [*]; done) | (simp; grind)), (by first | rfl | (simp; done) | (simp [*]; done) | (simp; grind)), H', ⟨Nat.le_refl _⟩, ⟨by (with_reducible repeat (first | apply Kd.R_alloc | apply Kd.R_drewN | apply Kd.R_drew)); exact HO171.out⟩, ⟨by repeat (first | (with_reducible first | exact HB.out | apply below_alloc | apply pw_below_drewN | apply below_drew1) | exact HB.out)⟩⟩
        case round =>
          clear H'
          try clear p2
          try clear c3
          try clear c3b0
          try clear c3b1
          try clear c4
          try clear c4b0
          try clear c4b1
          try clear c6
          try clear c6b0
          try clear c6b1
          try clear p2
          obtain ⟨x6_2, x7_2, rfl, rfl, HA, HK2, HO_3, HB⟩ := hrel
          cases gk with
          | zero => exact absurd HA.out (by simp [headgatelaw20_LexOrder.l0])
          | succ k2 =>
            have H := HA.out
            clear HA
            simp only [headgatelaw20_LexOrder.l0] at H
            by_cases c8 : x7_2 < (t167.length : Int)
            · rw [if_pos c8] at H
              have c8b0 : decide (x7_2 < (t167.length : Int)) = true := decide_eq_true c8
              clear c8
              by_cases c9 : 0 ≤ x7_2
              · rw [if_pos c9] at H
                have c9b0 : decide (0 ≤ x7_2) = true := decide_eq_true c9
                clear c9
                have HC10 := Aside0.mk H
                clear H
                obtain ⟨Ao11, co11, eo11⟩ := Kd.R_slice HO_3.out
                subst eo11
                have p174 : 0 ≤ (x7_2 : Int) := of_decide_eq_true (by first | (with_reducible assumption) | assumption)
                have q174 : x7_2 < (t167.length : Int) := of_decide_eq_true (by first | (with_reducible assumption) | assumption)
                obtain ⟨ad174, e174, hx174_0, hx174_1, hx174_2, hx174_3⟩ := at_T32 (Kd.R_reads' HO_3.out).2.2 x7_2 p174 q174
                cases e174
                replace p174 := eq_true p174
                replace q174 := eq_true q174
                go_upto_region 11 with (first | ((with_reducible refine gate_dst (N := 8) rfl ?_); (try (refine gate_guard (by rfl) ?_; dsimp only)); refine box_event ?hg (N := 8) ?hd (cs := #[.int .i64 0, .int .i64 0, .string (⟨#[]⟩ : ByteArray), .int .i64 0]) (t := 32) ?hr ?_; (case hd => rfl); (case hg => rfl); (case hr => first | (go_simp; done) | (go_simp; rfl)); intro gb175 hg w12 hbox hb; have n0_ := Aside0.mk (Kd.R_below (Kd.R_elderB (by (with_reducible repeat (first | apply Kd.R_alloc | apply Kd.R_drewN | apply Kd.R_drew)); exact HO_3.out) gb175 (Nat.le_of_eq hg.symm)) hb); have n1_ := Aside0.mk (below_step (by repeat (first | (with_reducible first | exact HB.out | apply below_alloc | apply pw_below_drewN | apply below_drew1) | exact HB.out)) hb); have n2_ := Aside0.mk (hbox); have n3_ := Aside0.mk ((by rw [hg]; exact (below_size (by repeat (first | (with_reducible first | exact HB.out | apply below_alloc | apply pw_below_drewN | apply below_drew1) | exact HB.out))) : w.heap.size ≤ gb175)); have n4_ := Aside0.mk ((by rw [hg]; exact (below_size (by repeat (first | (with_reducible first | exact HB.out | apply below_alloc | apply pw_below_drewN | apply below_drew1) | exact HB.out))) : w.heap.size ≤ gb175)); clear HO_3; clear HB; have HO_3 := n0_; have HB := n1_; have BK175 := n2_; have GW175 := n3_; have GE175 := n4_; clear n0_ n1_ n2_ n3_ n4_; clear hb hbox hg; have hcz13_0 : w12.cell? ⟨gb175, 0, none⟩ = some (.int .i64 0) := (blk_cell BK175.out 0).trans rfl; have hcz13_1 : w12.cell? ⟨gb175, 1, none⟩ = some (.int .i64 0) := (blk_cell BK175.out 1).trans rfl; have hcz13_2 : w12.cell? ⟨gb175, 2, none⟩ = some (.string (⟨#[]⟩ : ByteArray)) := (blk_cell BK175.out 2).trans rfl; have hcz13_3 : w12.cell? ⟨gb175, 3, none⟩ = some (.int .i64 0) := (blk_cell BK175.out 3).trans rfl; have hfz13_0 := blk_frozen BK175.out 0; have hfz13_1 := blk_frozen BK175.out 1; have hfz13_2 := blk_frozen BK175.out 2; have hfz13_3 := blk_frozen BK175.out 3))
                repeat (go_quiet (first | ((with_reducible refine gate_dst (N := 8) rfl ?_); (try (refine gate_guard (by rfl) ?_; dsimp only)); refine box_event ?hg (N := 8) ?hd (cs := #[.int .i64 0, .int .i64 0, .string (⟨#[]⟩ : ByteArray), .int .i64 0]) (t := 32) ?hr ?_; (case hd => rfl); (case hg => rfl); (case hr => first | (go_simp; done) | (go_simp; rfl)); intro gb175 hg w12 hbox hb; have n0_ := Aside0.mk (Kd.R_below (Kd.R_elderB (by (with_reducible repeat (first | apply Kd.R_alloc | apply Kd.R_drewN | apply Kd.R_drew)); exact HO_3.out) gb175 (Nat.le_of_eq hg.symm)) hb); have n1_ := Aside0.mk (below_step (by repeat (first | (with_reducible first | exact HB.out | apply below_alloc | apply pw_below_drewN | apply below_drew1) | exact HB.out)) hb); have n2_ := Aside0.mk (hbox); have n3_ := Aside0.mk ((by rw [hg]; exact (below_size (by repeat (first | (with_reducible first | exact HB.out | apply below_alloc | apply pw_below_drewN | apply below_drew1) | exact HB.out))) : w.heap.size ≤ gb175)); have n4_ := Aside0.mk ((by rw [hg]; exact (below_size (by repeat (first | (with_reducible first | exact HB.out | apply below_alloc | apply pw_below_drewN | apply below_drew1) | exact HB.out))) : w.heap.size ≤ gb175)); clear HO_3; clear HB; have HO_3 := n0_; have HB := n1_; have BK175 := n2_; have GW175 := n3_; have GE175 := n4_; clear n0_ n1_ n2_ n3_ n4_; clear hb hbox hg; have hcz13_0 : w12.cell? ⟨gb175, 0, none⟩ = some (.int .i64 0) := (blk_cell BK175.out 0).trans rfl; have hcz13_1 : w12.cell? ⟨gb175, 1, none⟩ = some (.int .i64 0) := (blk_cell BK175.out 1).trans rfl; have hcz13_2 : w12.cell? ⟨gb175, 2, none⟩ = some (.string (⟨#[]⟩ : ByteArray)) := (blk_cell BK175.out 2).trans rfl; have hcz13_3 : w12.cell? ⟨gb175, 3, none⟩ = some (.int .i64 0) := (blk_cell BK175.out 3).trans rfl; have hfz13_0 := blk_frozen BK175.out 0; have hfz13_1 := blk_frozen BK175.out 1; have hfz13_2 := blk_frozen BK175.out 2; have hfz13_3 := blk_frozen BK175.out 3)); go_upto_region 11 with (first | ((with_reducible refine gate_dst (N := 8) rfl ?_); (try (refine gate_guard (by rfl) ?_; dsimp only)); refine box_event ?hg (N := 8) ?hd (cs := #[.int .i64 0, .int .i64 0, .string (⟨#[]⟩ : ByteArray), .int .i64 0]) (t := 32) ?hr ?_; (case hd => rfl); (case hg => rfl); (case hr => first | (go_simp; done) | (go_simp; rfl)); intro gb175 hg w12 hbox hb; have n0_ := Aside0.mk (Kd.R_below (Kd.R_elderB (by (with_reducible repeat (first | apply Kd.R_alloc | apply Kd.R_drewN | apply Kd.R_drew)); exact HO_3.out) gb175 (Nat.le_of_eq hg.symm)) hb); have n1_ := Aside0.mk (below_step (by repeat (first | (with_reducible first | exact HB.out | apply below_alloc | apply pw_below_drewN | apply below_drew1) | exact HB.out)) hb); have n2_ := Aside0.mk (hbox); have n3_ := Aside0.mk ((by rw [hg]; exact (below_size (by repeat (first | (with_reducible first | exact HB.out | apply below_alloc | apply pw_below_drewN | apply below_drew1) | exact HB.out))) : w.heap.size ≤ gb175)); have n4_ := Aside0.mk ((by rw [hg]; exact (below_size (by repeat (first | (with_reducible first | exact HB.out | apply below_alloc | apply pw_below_drewN | apply below_drew1) | exact HB.out))) : w.heap.size ≤ gb175)); clear HO_3; clear HB; have HO_3 := n0_; have HB := n1_; have BK175 := n2_; have GW175 := n3_; have GE175 := n4_; clear n0_ n1_ n2_ n3_ n4_; clear hb hbox hg; have hcz13_0 : w12.cell? ⟨gb175, 0, none⟩ = some (.int .i64 0) := (blk_cell BK175.out 0).trans rfl; have hcz13_1 : w12.cell? ⟨gb175, 1, none⟩ = some (.int .i64 0) := (blk_cell BK175.out 1).trans rfl; have hcz13_2 : w12.cell? ⟨gb175, 2, none⟩ = some (.string (⟨#[]⟩ : ByteArray)) := (blk_cell BK175.out 2).trans rfl; have hcz13_3 : w12.cell? ⟨gb175, 3, none⟩ = some (.int .i64 0) := (blk_cell BK175.out 3).trans rfl; have hfz13_0 := blk_frozen BK175.out 0; have hfz13_1 := blk_frozen BK175.out 1; have hfz13_2 := blk_frozen BK175.out 2; have hfz13_3 := blk_frozen BK175.out 3)))
                (try simp only [Act.put, List.setIfInBounds_toArray, List.set_cons_zero, List.set_cons_succ])
                go_cut [67] (fun v67 wc => ∃ (kq : Nat) (x67_9 : Bool), v67 = .bool x67_9 ∧ Aside0 (headgatelaw20_LexOrder.j2 kq x0_1 t167 x7_2 x67_9 ((rd_T32 t167 x7_2).f0) ((rd_T32 t167 x7_2).f1) ((rd_T32 t167 x7_2).f2) ((rd_T32 t167 x7_2).f3) = some r) ∧ Aside0 (kq ≤ k2) ∧ Aside0 (Kd.R k32 32 wc w.heap.size (fun k_ => k_ ≠ gb175) (.slice (some ad174) t167.length co11) t167) ∧ Aside0 (wc.heap[gb175]? = some (.cells #[.int .i64 ((rd_T32 t167 x7_2).f0), .int .i64 ((rd_T32 t167 x7_2).f1), .string ((rd_T32 t167 x7_2).f2), .int .i64 ((rd_T32 t167 x7_2).f3)] 32 (0, 0))) ∧ Aside0 (Below w.heap.size w wc))
                case first =>
                  have H := HC10.out
                  clear HC10
                  by_cases c14 : ((rd_T32 t167 x7_2).f3) < x6_2
                  · rw [if_pos c14] at H
                    have c14b0 : decide (((rd_T32 t167 x7_2).f3) < x6_2) = true := decide_eq_true c14
                    clear c14
                    (first | rw [c14b0] | (simp only [i64_w, i32_w]; rw [c14b0]) | skip)
                    have H' := Aside0.mk H
                    clear H
                    have hcz15_0 : w12.cell? ⟨gb175, 0, none⟩ = some (.int .i64 0) := (blk_cell BK175.out 0).trans rfl
                    have hcz15_1 : w12.cell? ⟨gb175, 1, none⟩ = some (.int .i64 0) := (blk_cell BK175.out 1).trans rfl
                    have hcz15_2 : w12.cell? ⟨gb175, 2, none⟩ = some (.string (⟨#[]⟩ : ByteArray)) := (blk_cell BK175.out 2).trans rfl
                    have hcz15_3 : w12.cell? ⟨gb175, 3, none⟩ = some (.int .i64 0) := (blk_cell BK175.out 3).trans rfl
                    have hfz15_0 := blk_frozen BK175.out 0
                    have hfz15_1 := blk_frozen BK175.out 1
                    have hfz15_2 := blk_frozen BK175.out 2
                    have hfz15_3 := blk_frozen BK175.out 3
                    go_wp2
                    repeat (go_quiet (fail); try go_wp2)
                    go_meet
                    case rel => exact ⟨_, (true), (by first | rfl | (simp; done) | (simp [*]; done) | (simp; grind)), H', ⟨by have := HJ1.out; have := HK2.out; first | omega | exact Nat.le_refl _⟩, ⟨by (with_reducible repeat (first | apply Kd.R_alloc | apply Kd.R_drewN | apply Kd.R_drew)); exact Kd.R_mono (Kd.R_far (p := ⟨gb175, 3, none⟩) (Kd.R_far (p := ⟨gb175, 2, none⟩) (Kd.R_far (p := ⟨gb175, 1, none⟩) (Kd.R_far (p := ⟨gb175, 0, none⟩) (Kd.R_mono HO_3.out (fun k_ hk => (⟨hk, hk.2⟩ : _ ∧ k_ ≠ gb175))) (fun _ hk => hk.2) (.int .i64 ((rd_T32 t167 x7_2).f0))) (fun _ hk => hk.2) (.int .i64 ((rd_T32 t167 x7_2).f1))) (fun _ hk => hk.2) (.string ((rd_T32 t167 x7_2).f2))) (fun _ hk => hk.2) (.int .i64 ((rd_T32 t167 x7_2).f3))) (fun _ hk => hk.1.2)⟩, ⟨by (with_reducible repeat (first | refine blk_drewN ?_ _ | refine blk_drew ?_ | refine blk_alloc ?_ _)); refine blk_put (cs := #[.int .i64 ((rd_T32 t167 x7_2).f0), .int .i64 ((rd_T32 t167 x7_2).f1), .string ((rd_T32 t167 x7_2).f2), .int .i64 0]) ?_ 3 _ rfl; (with_reducible repeat (first | refine blk_drewN ?_ _ | refine blk_drew ?_ | refine blk_alloc ?_ _)); refine blk_put (cs := #[.int .i64 ((rd_T32 t167 x7_2).f0), .int .i64 ((rd_T32 t167 x7_2).f1), .string (⟨#[]⟩ : ByteArray), .int .i64 0]) ?_ 2 _ rfl; (with_reducible repeat (first | refine blk_drewN ?_ _ | refine blk_drew ?_ | refine blk_alloc ?_ _)); refine blk_put (cs := #[.int .i64 ((rd_T32 t167 x7_2).f0), .int .i64 0, .string (⟨#[]⟩ : ByteArray), .int .i64 0]) ?_ 1 _ rfl; (with_reducible repeat (first | refine blk_drewN ?_ _ | refine blk_drew ?_ | refine blk_alloc ?_ _)); refine blk_put (cs := #[.int .i64 0, .int .i64 0, .string (⟨#[]⟩ : ByteArray), .int .i64 0]) ?_ 0 _ rfl; (with_reducible repeat (first | refine blk_drewN ?_ _ | refine blk_drew ?_ | refine blk_alloc ?_ _)); exact BK175.out⟩, ⟨by repeat (first | (with_reducible first | exact HB.out | apply below_alloc | apply pw_below_drewN | apply below_drew1 | refine below_set ?_ GE175.out) | exact HB.out)⟩⟩
                  · rw [if_neg c14] at H
                    have c14b0 : decide (((rd_T32 t167 x7_2).f3) < x6_2) = false := decide_eq_false c14
                    clear c14
                    (first | rw [c14b0] | (simp only [i64_w, i32_w]; rw [c14b0]) | skip)
                    by_cases c16 : ((rd_T32 t167 x7_2).f3) ≥ (x0_1.size : Int)
                    · rw [if_pos c16] at H
                      have c16b0 : decide ((x0_1.size : Int) ≤ ((rd_T32 t167 x7_2).f3)) = true := decide_eq_true c16
                      clear c16
                      have H' := Aside0.mk H
                      clear H
                      have hcz17_0 : w12.cell? ⟨gb175, 0, none⟩ = some (.int .i64 0) := (blk_cell BK175.out 0).trans rfl
                      have hcz17_1 : w12.cell? ⟨gb175, 1, none⟩ = some (.int .i64 0) := (blk_cell BK175.out 1).trans rfl
                      have hcz17_2 : w12.cell? ⟨gb175, 2, none⟩ = some (.string (⟨#[]⟩ : ByteArray)) := (blk_cell BK175.out 2).trans rfl
                      have hcz17_3 : w12.cell? ⟨gb175, 3, none⟩ = some (.int .i64 0) := (blk_cell BK175.out 3).trans rfl
                      have hfz17_0 := blk_frozen BK175.out 0
                      have hfz17_1 := blk_frozen BK175.out 1
                      have hfz17_2 := blk_frozen BK175.out 2
                      have hfz17_3 := blk_frozen BK175.out 3
                      go_wp2
                      repeat (go_quiet (fail); try go_wp2)
                      go_meet
                      case rel => exact ⟨_, (true), (by first | rfl | (simp; done) | (simp [*]; done) | (simp; grind)), H', ⟨by have := HJ1.out; have := HK2.out; first | omega | exact Nat.le_refl _⟩, ⟨by (with_reducible repeat (first | apply Kd.R_alloc | apply Kd.R_drewN | apply Kd.R_drew)); exact Kd.R_mono (Kd.R_far (p := ⟨gb175, 3, none⟩) (Kd.R_far (p := ⟨gb175, 2, none⟩) (Kd.R_far (p := ⟨gb175, 1, none⟩) (Kd.R_far (p := ⟨gb175, 0, none⟩) (Kd.R_mono HO_3.out (fun k_ hk => (⟨hk, hk.2⟩ : _ ∧ k_ ≠ gb175))) (fun _ hk => hk.2) (.int .i64 ((rd_T32 t167 x7_2).f0))) (fun _ hk => hk.2) (.int .i64 ((rd_T32 t167 x7_2).f1))) (fun _ hk => hk.2) (.string ((rd_T32 t167 x7_2).f2))) (fun _ hk => hk.2) (.int .i64 ((rd_T32 t167 x7_2).f3))) (fun _ hk => hk.1.2)⟩, ⟨by (with_reducible repeat (first | refine blk_drewN ?_ _ | refine blk_drew ?_ | refine blk_alloc ?_ _)); refine blk_put (cs := #[.int .i64 ((rd_T32 t167 x7_2).f0), .int .i64 ((rd_T32 t167 x7_2).f1), .string ((rd_T32 t167 x7_2).f2), .int .i64 0]) ?_ 3 _ rfl; (with_reducible repeat (first | refine blk_drewN ?_ _ | refine blk_drew ?_ | refine blk_alloc ?_ _)); refine blk_put (cs := #[.int .i64 ((rd_T32 t167 x7_2).f0), .int .i64 ((rd_T32 t167 x7_2).f1), .string (⟨#[]⟩ : ByteArray), .int .i64 0]) ?_ 2 _ rfl; (with_reducible repeat (first | refine blk_drewN ?_ _ | refine blk_drew ?_ | refine blk_alloc ?_ _)); refine blk_put (cs := #[.int .i64 ((rd_T32 t167 x7_2).f0), .int .i64 0, .string (⟨#[]⟩ : ByteArray), .int .i64 0]) ?_ 1 _ rfl; (with_reducible repeat (first | refine blk_drewN ?_ _ | refine blk_drew ?_ | refine blk_alloc ?_ _)); refine blk_put (cs := #[.int .i64 0, .int .i64 0, .string (⟨#[]⟩ : ByteArray), .int .i64 0]) ?_ 0 _ rfl; (with_reducible repeat (first | refine blk_drewN ?_ _ | refine blk_drew ?_ | refine blk_alloc ?_ _)); exact BK175.out⟩, ⟨by repeat (first | (with_reducible first | exact HB.out | apply below_alloc | apply pw_below_drewN | apply below_drew1 | refine below_set ?_ GE175.out) | exact HB.out)⟩⟩
                    · rw [if_neg c16] at H
                      have c16b0 : decide ((x0_1.size : Int) ≤ ((rd_T32 t167 x7_2).f3)) = false := decide_eq_false c16
                      clear c16
                      by_cases c18 : ((rd_T32 t167 x7_2).f0) < 1
                      · rw [if_pos c18] at H
                        have c18b0 : decide (((rd_T32 t167 x7_2).f0) < 1) = true := decide_eq_true c18
                        clear c18
                        have H' := Aside0.mk H
                        clear H
                        have hcz19_0 : w12.cell? ⟨gb175, 0, none⟩ = some (.int .i64 0) := (blk_cell BK175.out 0).trans rfl
                        have hcz19_1 : w12.cell? ⟨gb175, 1, none⟩ = some (.int .i64 0) := (blk_cell BK175.out 1).trans rfl
                        have hcz19_2 : w12.cell? ⟨gb175, 2, none⟩ = some (.string (⟨#[]⟩ : ByteArray)) := (blk_cell BK175.out 2).trans rfl
                        have hcz19_3 : w12.cell? ⟨gb175, 3, none⟩ = some (.int .i64 0) := (blk_cell BK175.out 3).trans rfl
                        have hfz19_0 := blk_frozen BK175.out 0
                        have hfz19_1 := blk_frozen BK175.out 1
                        have hfz19_2 := blk_frozen BK175.out 2
                        have hfz19_3 := blk_frozen BK175.out 3
                        go_wp2
                        repeat (go_quiet (fail); try go_wp2)
                        go_meet
                        case rel => exact ⟨_, (true), (by first | rfl | (simp; done) | (simp [*]; done) | (simp; grind)), H', ⟨by have := HJ1.out; have := HK2.out; first | omega | exact Nat.le_refl _⟩, ⟨by (with_reducible repeat (first | apply Kd.R_alloc | apply Kd.R_drewN | apply Kd.R_drew)); exact Kd.R_mono (Kd.R_far (p := ⟨gb175, 3, none⟩) (Kd.R_far (p := ⟨gb175, 2, none⟩) (Kd.R_far (p := ⟨gb175, 1, none⟩) (Kd.R_far (p := ⟨gb175, 0, none⟩) (Kd.R_mono HO_3.out (fun k_ hk => (⟨hk, hk.2⟩ : _ ∧ k_ ≠ gb175))) (fun _ hk => hk.2) (.int .i64 ((rd_T32 t167 x7_2).f0))) (fun _ hk => hk.2) (.int .i64 ((rd_T32 t167 x7_2).f1))) (fun _ hk => hk.2) (.string ((rd_T32 t167 x7_2).f2))) (fun _ hk => hk.2) (.int .i64 ((rd_T32 t167 x7_2).f3))) (fun _ hk => hk.1.2)⟩, ⟨by (with_reducible repeat (first | refine blk_drewN ?_ _ | refine blk_drew ?_ | refine blk_alloc ?_ _)); refine blk_put (cs := #[.int .i64 ((rd_T32 t167 x7_2).f0), .int .i64 ((rd_T32 t167 x7_2).f1), .string ((rd_T32 t167 x7_2).f2), .int .i64 0]) ?_ 3 _ rfl; (with_reducible repeat (first | refine blk_drewN ?_ _ | refine blk_drew ?_ | refine blk_alloc ?_ _)); refine blk_put (cs := #[.int .i64 ((rd_T32 t167 x7_2).f0), .int .i64 ((rd_T32 t167 x7_2).f1), .string (⟨#[]⟩ : ByteArray), .int .i64 0]) ?_ 2 _ rfl; (with_reducible repeat (first | refine blk_drewN ?_ _ | refine blk_drew ?_ | refine blk_alloc ?_ _)); refine blk_put (cs := #[.int .i64 ((rd_T32 t167 x7_2).f0), .int .i64 0, .string (⟨#[]⟩ : ByteArray), .int .i64 0]) ?_ 1 _ rfl; (with_reducible repeat (first | refine blk_drewN ?_ _ | refine blk_drew ?_ | refine blk_alloc ?_ _)); refine blk_put (cs := #[.int .i64 0, .int .i64 0, .string (⟨#[]⟩ : ByteArray), .int .i64 0]) ?_ 0 _ rfl; (with_reducible repeat (first | refine blk_drewN ?_ _ | refine blk_drew ?_ | refine blk_alloc ?_ _)); exact BK175.out⟩, ⟨by repeat (first | (with_reducible first | exact HB.out | apply below_alloc | apply pw_below_drewN | apply below_drew1 | refine below_set ?_ GE175.out) | exact HB.out)⟩⟩
                      · rw [if_neg c18] at H
                        have c18b0 : decide (((rd_T32 t167 x7_2).f0) < 1) = false := decide_eq_false c18
                        clear c18
                        by_cases c20 : ((rd_T32 t167 x7_2).f0) > 3
                        · rw [if_pos c20] at H
                          have c20b0 : decide (3 < ((rd_T32 t167 x7_2).f0)) = true := decide_eq_true c20
                          clear c20
                          have H' := Aside0.mk H
                          clear H
                          have hcz21_0 : w12.cell? ⟨gb175, 0, none⟩ = some (.int .i64 0) := (blk_cell BK175.out 0).trans rfl
                          have hcz21_1 : w12.cell? ⟨gb175, 1, none⟩ = some (.int .i64 0) := (blk_cell BK175.out 1).trans rfl
                          have hcz21_2 : w12.cell? ⟨gb175, 2, none⟩ = some (.string (⟨#[]⟩ : ByteArray)) := (blk_cell BK175.out 2).trans rfl
                          have hcz21_3 : w12.cell? ⟨gb175, 3, none⟩ = some (.int .i64 0) := (blk_cell BK175.out 3).trans rfl
                          have hfz21_0 := blk_frozen BK175.out 0
                          have hfz21_1 := blk_frozen BK175.out 1
                          have hfz21_2 := blk_frozen BK175.out 2
                          have hfz21_3 := blk_frozen BK175.out 3
                          go_wp2
                          repeat (go_quiet (fail); try go_wp2)
                          go_meet
                          case rel => exact ⟨_, (true), (by first | rfl | (simp; done) | (simp [*]; done) | (simp; grind)), H', ⟨by have := HJ1.out; have := HK2.out; first | omega | exact Nat.le_refl _⟩, ⟨by (with_reducible repeat (first | apply Kd.R_alloc | apply Kd.R_drewN | apply Kd.R_drew)); exact Kd.R_mono (Kd.R_far (p := ⟨gb175, 3, none⟩) (Kd.R_far (p := ⟨gb175, 2, none⟩) (Kd.R_far (p := ⟨gb175, 1, none⟩) (Kd.R_far (p := ⟨gb175, 0, none⟩) (Kd.R_mono HO_3.out (fun k_ hk => (⟨hk, hk.2⟩ : _ ∧ k_ ≠ gb175))) (fun _ hk => hk.2) (.int .i64 ((rd_T32 t167 x7_2).f0))) (fun _ hk => hk.2) (.int .i64 ((rd_T32 t167 x7_2).f1))) (fun _ hk => hk.2) (.string ((rd_T32 t167 x7_2).f2))) (fun _ hk => hk.2) (.int .i64 ((rd_T32 t167 x7_2).f3))) (fun _ hk => hk.1.2)⟩, ⟨by (with_reducible repeat (first | refine blk_drewN ?_ _ | refine blk_drew ?_ | refine blk_alloc ?_ _)); refine blk_put (cs := #[.int .i64 ((rd_T32 t167 x7_2).f0), .int .i64 ((rd_T32 t167 x7_2).f1), .string ((rd_T32 t167 x7_2).f2), .int .i64 0]) ?_ 3 _ rfl; (with_reducible repeat (first | refine blk_drewN ?_ _ | refine blk_drew ?_ | refine blk_alloc ?_ _)); refine blk_put (cs := #[.int .i64 ((rd_T32 t167 x7_2).f0), .int .i64 ((rd_T32 t167 x7_2).f1), .string (⟨#[]⟩ : ByteArray), .int .i64 0]) ?_ 2 _ rfl; (with_reducible repeat (first | refine blk_drewN ?_ _ | refine blk_drew ?_ | refine blk_alloc ?_ _)); refine blk_put (cs := #[.int .i64 ((rd_T32 t167 x7_2).f0), .int .i64 0, .string (⟨#[]⟩ : ByteArray), .int .i64 0]) ?_ 1 _ rfl; (with_reducible repeat (first | refine blk_drewN ?_ _ | refine blk_drew ?_ | refine blk_alloc ?_ _)); refine blk_put (cs := #[.int .i64 0, .int .i64 0, .string (⟨#[]⟩ : ByteArray), .int .i64 0]) ?_ 0 _ rfl; (with_reducible repeat (first | refine blk_drewN ?_ _ | refine blk_drew ?_ | refine blk_alloc ?_ _)); exact BK175.out⟩, ⟨by repeat (first | (with_reducible first | exact HB.out | apply below_alloc | apply pw_below_drewN | apply below_drew1 | refine below_set ?_ GE175.out) | exact HB.out)⟩⟩
                        · rw [if_neg c20] at H
                          have c20b0 : decide (3 < ((rd_T32 t167 x7_2).f0)) = false := decide_eq_false c20
                          clear c20
                          have H' := Aside0.mk H
                          clear H
                          have hcz22_0 : w12.cell? ⟨gb175, 0, none⟩ = some (.int .i64 0) := (blk_cell BK175.out 0).trans rfl
                          have hcz22_1 : w12.cell? ⟨gb175, 1, none⟩ = some (.int .i64 0) := (blk_cell BK175.out 1).trans rfl
                          have hcz22_2 : w12.cell? ⟨gb175, 2, none⟩ = some (.string (⟨#[]⟩ : ByteArray)) := (blk_cell BK175.out 2).trans rfl
                          have hcz22_3 : w12.cell? ⟨gb175, 3, none⟩ = some (.int .i64 0) := (blk_cell BK175.out 3).trans rfl
                          have hfz22_0 := blk_frozen BK175.out 0
                          have hfz22_1 := blk_frozen BK175.out 1
                          have hfz22_2 := blk_frozen BK175.out 2
                          have hfz22_3 := blk_frozen BK175.out 3
                          go_wp2
                          repeat (go_quiet (fail); try go_wp2)
                          go_meet
                          case rel => exact ⟨_, (((((rd_T32 t167 x7_2).f0) == 1) != (((rd_T32 t167 x7_2).f2).toList == ([] : List UInt8)))), (by first | rfl | (simp; done) | (simp [*]; done) | (simp; grind)), H', ⟨by have := HJ1.out; have := HK2.out; first | omega | exact Nat.le_refl _⟩, ⟨by (with_reducible repeat (first | apply Kd.R_alloc | apply Kd.R_drewN | apply Kd.R_drew)); exact Kd.R_mono (Kd.R_far (p := ⟨gb175, 3, none⟩) (Kd.R_far (p := ⟨gb175, 2, none⟩) (Kd.R_far (p := ⟨gb175, 1, none⟩) (Kd.R_far (p := ⟨gb175, 0, none⟩) (Kd.R_mono HO_3.out (fun k_ hk => (⟨hk, hk.2⟩ : _ ∧ k_ ≠ gb175))) (fun _ hk => hk.2) (.int .i64 ((rd_T32 t167 x7_2).f0))) (fun _ hk => hk.2) (.int .i64 ((rd_T32 t167 x7_2).f1))) (fun _ hk => hk.2) (.string ((rd_T32 t167 x7_2).f2))) (fun _ hk => hk.2) (.int .i64 ((rd_T32 t167 x7_2).f3))) (fun _ hk => hk.1.2)⟩, ⟨by (with_reducible repeat (first | refine blk_drewN ?_ _ | refine blk_drew ?_ | refine blk_alloc ?_ _)); refine blk_put (cs := #[.int .i64 ((rd_T32 t167 x7_2).f0), .int .i64 ((rd_T32 t167 x7_2).f1), .string ((rd_T32 t167 x7_2).f2), .int .i64 0]) ?_ 3 _ rfl; (with_reducible repeat (first | refine blk_drewN ?_ _ | refine blk_drew ?_ | refine blk_alloc ?_ _)); refine blk_put (cs := #[.int .i64 ((rd_T32 t167 x7_2).f0), .int .i64 ((rd_T32 t167 x7_2).f1), .string (⟨#[]⟩ : ByteArray), .int .i64 0]) ?_ 2 _ rfl; (with_reducible repeat (first | refine blk_drewN ?_ _ | refine blk_drew ?_ | refine blk_alloc ?_ _)); refine blk_put (cs := #[.int .i64 ((rd_T32 t167 x7_2).f0), .int .i64 0, .string (⟨#[]⟩ : ByteArray), .int .i64 0]) ?_ 1 _ rfl; (with_reducible repeat (first | refine blk_drewN ?_ _ | refine blk_drew ?_ | refine blk_alloc ?_ _)); refine blk_put (cs := #[.int .i64 0, .int .i64 0, .string (⟨#[]⟩ : ByteArray), .int .i64 0]) ?_ 0 _ rfl; (with_reducible repeat (first | refine blk_drewN ?_ _ | refine blk_drew ?_ | refine blk_alloc ?_ _)); exact BK175.out⟩, ⟨by repeat (first | (with_reducible first | exact HB.out | apply below_alloc | apply pw_below_drewN | apply below_drew1 | refine below_set ?_ GE175.out) | exact HB.out)⟩⟩
                case rest =>
                  clear HC10
                  try clear c1
                  try clear p1
                  try clear q1
                  try clear hx1
                  try clear c2
                  try clear p2
                  try clear c3
                  try clear c3b0
                  try clear c3b1
                  try clear c4
                  try clear c4b0
                  try clear c4b1
                  try clear c6
                  try clear c6b0
                  try clear c6b1
                  try clear c8
                  try clear c8b0
                  try clear c9
                  try clear c9b0
                  try clear c14
                  try clear c14b0
                  try clear c16
                  try clear c16b0
                  try clear p17
                  try clear q17
                  try clear hx17
                  try clear c18
                  try clear c18b0
                  try clear c20
                  try clear c20b0
                  try clear hcz13_0
                  try clear hcz13_1
                  try clear hcz13_2
                  try clear hcz13_3
                  try clear hcz15_0
                  try clear hcz15_1
                  try clear hcz15_2
                  try clear hcz15_3
                  try clear hcz17_0
                  try clear hcz17_1
                  try clear hcz17_2
                  try clear hcz17_3
                  try clear hcz19_0
                  try clear hcz19_1
                  try clear hcz19_2
                  try clear hcz19_3
                  try clear hcz21_0
                  try clear hcz21_1
                  try clear hcz21_2
                  try clear hcz21_3
                  try clear hcz22_0
                  try clear hcz22_1
                  try clear hcz22_2
                  try clear hcz22_3
                  try clear hfz13_0
                  try clear hfz13_1
                  try clear hfz13_2
                  try clear hfz13_3
                  try clear hfz15_0
                  try clear hfz15_1
                  try clear hfz15_2
                  try clear hfz15_3
                  try clear hfz17_0
                  try clear hfz17_1
                  try clear hfz17_2
                  try clear hfz17_3
                  try clear hfz19_0
                  try clear hfz19_1
                  try clear hfz19_2
                  try clear hfz19_3
                  try clear hfz21_0
                  try clear hfz21_1
                  try clear hfz21_2
                  try clear hfz21_3
                  try clear hfz22_0
                  try clear hfz22_1
                  try clear hfz22_2
                  try clear hfz22_3
                  try clear hx174_0
                  try clear hx174_1
                  try clear hx174_2
                  try clear hx174_3
                  try clear p174
                  try clear p2
                  try clear q174
                  obtain ⟨kq, x67_9, rfl, HA, HJ9, HO_3, BK175, HB⟩ := hcut
                  cases kq with
                  | zero => exact absurd HA.out (by simp [headgatelaw20_LexOrder.j2])
                  | succ kj9 =>
                    have H := HA.out
                    clear HA
                    simp only [headgatelaw20_LexOrder.j2] at H
                    by_cases c23 : x67_9 = true
                    · subst c23
                      have H1 : (some false) = some r := by rw [if_pos rfl] at H; exact H
                      clear H
                      have H := H1
                      clear H1
                      obtain rfl := Option.some.inj H
                      go_wp2
                      repeat (go_quiet (fail); try go_wp2)
                      go_ret
                      exact ⟨by first | rfl | (simp [errW_none, errW_some] <;> rfl) | (simp [*, errW_none, errW_some] <;> rfl), by repeat (first | (with_reducible first | exact HB.out | apply below_alloc | apply pw_below_drewN | apply below_drew1 | refine below_set ?_ GE175.out) | exact HB.out)⟩
                    · replace c23 := Bool.eq_false_iff.mpr c23
                      subst c23
                      have H1 : (if (wrap64 (((rd_T32 t167 x7_2).f3) + (mx 1 (((rd_T32 t167 x7_2).f2).size : Int)))) > (x0_1.size : Int) then (some false) else (if ((rd_T32 t167 x7_2).f2).toList = ([] : List UInt8) then (if 0 ≤ ((rd_T32 t167 x7_2).f3) then (if ((rd_T32 t167 x7_2).f3) < (x0_1.size : Int) then (if (bt x0_1 ((rd_T32 t167 x7_2).f3)) < 48 then (some false) else (if (bt x0_1 ((rd_T32 t167 x7_2).f3)) > 57 then (some false) else (headgatelaw20_LexOrder.l0 kj9 x0_1 t167 (wrap64 (((rd_T32 t167 x7_2).f3) + (mx 1 (((rd_T32 t167 x7_2).f2).size : Int)))) (wrap64 (x7_2 + 1))))) else (none)) else (none)) else (if 0 ≤ ((rd_T32 t167 x7_2).f3) then (if ((rd_T32 t167 x7_2).f3) ≤ (wrap64 (((rd_T32 t167 x7_2).f3) + (mx 1 (((rd_T32 t167 x7_2).f2).size : Int)))) then (if (wrap64 (((rd_T32 t167 x7_2).f3) + (mx 1 (((rd_T32 t167 x7_2).f2).size : Int)))) ≤ (x0_1.size : Int) then (if (x0_1.extract (((rd_T32 t167 x7_2).f3) : Int).toNat ((wrap64 (((rd_T32 t167 x7_2).f3) + (mx 1 (((rd_T32 t167 x7_2).f2).size : Int)))) : Int).toNat).toList = ((rd_T32 t167 x7_2).f2).toList then (headgatelaw20_LexOrder.l0 kj9 x0_1 t167 (wrap64 (((rd_T32 t167 x7_2).f3) + (mx 1 (((rd_T32 t167 x7_2).f2).size : Int)))) (wrap64 (x7_2 + 1))) else (some false)) else (none)) else (none)) else (none)))) = some r := by rw [if_neg (show ¬ (false = true) by decide)] at H; exact H
                      clear H
                      have H := H1
                      clear H1
                      obtain ⟨ji24, hji24⟩ : ∃ j_ : Int, (mx 1 (((rd_T32 t167 x7_2).f2).size : Int)) = j_ := ⟨_, rfl⟩
                      replace H : (if (wrap64 (((rd_T32 t167 x7_2).f3) + (ji24))) > (x0_1.size : Int) then (some false) else (if ((rd_T32 t167 x7_2).f2).toList = ([] : List UInt8) then (if 0 ≤ ((rd_T32 t167 x7_2).f3) then (if ((rd_T32 t167 x7_2).f3) < (x0_1.size : Int) then (if (bt x0_1 ((rd_T32 t167 x7_2).f3)) < 48 then (some false) else (if (bt x0_1 ((rd_T32 t167 x7_2).f3)) > 57 then (some false) else (headgatelaw20_LexOrder.l0 kj9 x0_1 t167 (wrap64 (((rd_T32 t167 x7_2).f3) + (ji24))) (wrap64 (x7_2 + 1))))) else (none)) else (none)) else (if 0 ≤ ((rd_T32 t167 x7_2).f3) then (if ((rd_T32 t167 x7_2).f3) ≤ (wrap64 (((rd_T32 t167 x7_2).f3) + (ji24))) then (if (wrap64 (((rd_T32 t167 x7_2).f3) + (ji24))) ≤ (x0_1.size : Int) then (if (x0_1.extract (((rd_T32 t167 x7_2).f3) : Int).toNat ((wrap64 (((rd_T32 t167 x7_2).f3) + (ji24))) : Int).toNat).toList = ((rd_T32 t167 x7_2).f2).toList then (headgatelaw20_LexOrder.l0 kj9 x0_1 t167 (wrap64 (((rd_T32 t167 x7_2).f3) + (ji24))) (wrap64 (x7_2 + 1))) else (some false)) else (none)) else (none)) else (none)))) = some r := by first | (rw [hji24] at H; exact H) | (simp only [hji24] at H ⊢; exact H)
                      have hji24_ : (if 1 < (((rd_T32 t167 x7_2).f2).size : Int) then (((rd_T32 t167 x7_2).f2).size : Int) else 1) = ji24 := hji24
                      by_cases c25 : (wrap64 (((rd_T32 t167 x7_2).f3) + (ji24))) > (x0_1.size : Int)
                      · rw [if_pos c25] at H
                        have c25b0 : decide ((x0_1.size : Int) < (wrap64 (((rd_T32 t167 x7_2).f3) + (ji24)))) = true := decide_eq_true c25
                        clear c25
                        obtain rfl := Option.some.inj H
                        have hcz26_0 : wc.cell? ⟨gb175, 0, none⟩ = some (.int .i64 ((rd_T32 t167 x7_2).f0)) := (blk_cell BK175.out 0).trans rfl
                        have hcz26_1 : wc.cell? ⟨gb175, 1, none⟩ = some (.int .i64 ((rd_T32 t167 x7_2).f1)) := (blk_cell BK175.out 1).trans rfl
                        have hcz26_2 : wc.cell? ⟨gb175, 2, none⟩ = some (.string ((rd_T32 t167 x7_2).f2)) := (blk_cell BK175.out 2).trans rfl
                        have hcz26_3 : wc.cell? ⟨gb175, 3, none⟩ = some (.int .i64 ((rd_T32 t167 x7_2).f3)) := (blk_cell BK175.out 3).trans rfl
                        have hfz26_0 := blk_frozen BK175.out 0
                        have hfz26_1 := blk_frozen BK175.out 1
                        have hfz26_2 := blk_frozen BK175.out 2
                        have hfz26_3 := blk_frozen BK175.out 3
                        go_wp2
                        repeat (go_quiet (fail); try go_wp2)
                        go_ret
                        exact ⟨by first | rfl | (simp [errW_none, errW_some] <;> rfl) | (simp only [← hji24]; first | rfl | (simp [errW_none, errW_some] <;> rfl)) | (simp [*, errW_none, errW_some] <;> rfl), by repeat (first | (with_reducible first | exact HB.out | apply below_alloc | apply pw_below_drewN | apply below_drew1 | refine below_set ?_ GE175.out) | exact HB.out)⟩
                      · rw [if_neg c25] at H
                        have c25b0 : decide ((x0_1.size : Int) < (wrap64 (((rd_T32 t167 x7_2).f3) + (ji24)))) = false := decide_eq_false c25
                        clear c25
                        by_cases c27 : ((rd_T32 t167 x7_2).f2).toList = ([] : List UInt8)
                        · rw [if_pos c27] at H
                          have c27b0 : (((rd_T32 t167 x7_2).f2).toList == ([] : List UInt8)) = true := beq_iff_eq.mpr c27
                          have c27b1 : (((rd_T32 t167 x7_2).f2).toList != ([] : List UInt8)) = false := bne_eq_false_iff_eq.mpr c27
                          clear c27
                          by_cases c28 : 0 ≤ ((rd_T32 t167 x7_2).f3)
                          · rw [if_pos c28] at H
                            have c28b0 : decide (0 ≤ ((rd_T32 t167 x7_2).f3)) = true := decide_eq_true c28
                            clear c28
                            by_cases c29 : ((rd_T32 t167 x7_2).f3) < (x0_1.size : Int)
                            · rw [if_pos c29] at H
                              have c29b0 : decide (((rd_T32 t167 x7_2).f3) < (x0_1.size : Int)) = true := decide_eq_true c29
                              clear c29
                              by_cases c31 : (bt x0_1 ((rd_T32 t167 x7_2).f3)) < 48
                              · rw [if_pos c31] at H
                                have c31b0 : decide ((bt x0_1 ((rd_T32 t167 x7_2).f3)) < 48) = true := decide_eq_true c31
                                clear c31
                                obtain rfl := Option.some.inj H
                                have hcz32_0 : wc.cell? ⟨gb175, 0, none⟩ = some (.int .i64 ((rd_T32 t167 x7_2).f0)) := (blk_cell BK175.out 0).trans rfl
                                have hcz32_1 : wc.cell? ⟨gb175, 1, none⟩ = some (.int .i64 ((rd_T32 t167 x7_2).f1)) := (blk_cell BK175.out 1).trans rfl
                                have hcz32_2 : wc.cell? ⟨gb175, 2, none⟩ = some (.string ((rd_T32 t167 x7_2).f2)) := (blk_cell BK175.out 2).trans rfl
                                have hcz32_3 : wc.cell? ⟨gb175, 3, none⟩ = some (.int .i64 ((rd_T32 t167 x7_2).f3)) := (blk_cell BK175.out 3).trans rfl
                                have hfz32_0 := blk_frozen BK175.out 0
                                have hfz32_1 := blk_frozen BK175.out 1
                                have hfz32_2 := blk_frozen BK175.out 2
                                have hfz32_3 := blk_frozen BK175.out 3
                                have p30 : 0 ≤ (((rd_T32 t167 x7_2).f3) : Int) := of_decide_eq_true (by first | (with_reducible assumption) | assumption)
                                have q30 : ((rd_T32 t167 x7_2).f3) < (x0_1.size : Int) := of_decide_eq_true (by first | (with_reducible assumption) | assumption)
                                have hx30 := bt_at x0_1 ((rd_T32 t167 x7_2).f3)
                                replace p30 := eq_true p30
                                replace q30 := eq_true q30
                                go_wp2
                                repeat (go_quiet (fail); try go_wp2)
                                go_ret
                                exact ⟨by first | rfl | (simp [errW_none, errW_some] <;> rfl) | (simp only [← hji24]; first | rfl | (simp [errW_none, errW_some] <;> rfl)) | (simp [*, errW_none, errW_some] <;> rfl), by repeat (first | (with_reducible first | exact HB.out | apply below_alloc | apply pw_below_drewN | apply below_drew1 | refine below_set ?_ GE175.out) | exact HB.out)⟩
                              · rw [if_neg c31] at H
                                have c31b0 : decide ((bt x0_1 ((rd_T32 t167 x7_2).f3)) < 48) = false := decide_eq_false c31
                                clear c31
                                by_cases c34 : (bt x0_1 ((rd_T32 t167 x7_2).f3)) > 57
                                · rw [if_pos c34] at H
                                  have c34b0 : decide (57 < (bt x0_1 ((rd_T32 t167 x7_2).f3))) = true := decide_eq_true c34
                                  clear c34
                                  obtain rfl := Option.some.inj H
                                  have hcz35_0 : wc.cell? ⟨gb175, 0, none⟩ = some (.int .i64 ((rd_T32 t167 x7_2).f0)) := (blk_cell BK175.out 0).trans rfl
                                  have hcz35_1 : wc.cell? ⟨gb175, 1, none⟩ = some (.int .i64 ((rd_T32 t167 x7_2).f1)) := (blk_cell BK175.out 1).trans rfl
                                  have hcz35_2 : wc.cell? ⟨gb175, 2, none⟩ = some (.string ((rd_T32 t167 x7_2).f2)) := (blk_cell BK175.out 2).trans rfl
                                  have hcz35_3 : wc.cell? ⟨gb175, 3, none⟩ = some (.int .i64 ((rd_T32 t167 x7_2).f3)) := (blk_cell BK175.out 3).trans rfl
                                  have hfz35_0 := blk_frozen BK175.out 0
                                  have hfz35_1 := blk_frozen BK175.out 1
                                  have hfz35_2 := blk_frozen BK175.out 2
                                  have hfz35_3 := blk_frozen BK175.out 3
                                  have p30 : 0 ≤ (((rd_T32 t167 x7_2).f3) : Int) := of_decide_eq_true (by first | (with_reducible assumption) | assumption)
                                  have q30 : ((rd_T32 t167 x7_2).f3) < (x0_1.size : Int) := of_decide_eq_true (by first | (with_reducible assumption) | assumption)
                                  have hx30 := bt_at x0_1 ((rd_T32 t167 x7_2).f3)
                                  replace p30 := eq_true p30
                                  replace q30 := eq_true q30
                                  have p33 : 0 ≤ (((rd_T32 t167 x7_2).f3) : Int) := of_decide_eq_true (by first | (with_reducible assumption) | assumption)
                                  have q33 : ((rd_T32 t167 x7_2).f3) < (x0_1.size : Int) := of_decide_eq_true (by first | (with_reducible assumption) | assumption)
                                  have hx33 := bt_at x0_1 ((rd_T32 t167 x7_2).f3)
                                  replace p33 := eq_true p33
                                  replace q33 := eq_true q33
                                  go_wp2
                                  repeat (go_quiet (fail); try go_wp2)
                                  go_ret
                                  exact ⟨by first | rfl | (simp [errW_none, errW_some] <;> rfl) | (simp only [← hji24]; first | rfl | (simp [errW_none, errW_some] <;> rfl)) | (simp [*, errW_none, errW_some] <;> rfl), by repeat (first | (with_reducible first | exact HB.out | apply below_alloc | apply pw_below_drewN | apply below_drew1 | refine below_set ?_ GE175.out) | exact HB.out)⟩
                                · rw [if_neg c34] at H
                                  have c34b0 : decide (57 < (bt x0_1 ((rd_T32 t167 x7_2).f3))) = false := decide_eq_false c34
                                  clear c34
                                  have H' := Aside0.mk H
                                  clear H
                                  have hcz36_0 : wc.cell? ⟨gb175, 0, none⟩ = some (.int .i64 ((rd_T32 t167 x7_2).f0)) := (blk_cell BK175.out 0).trans rfl
                                  have hcz36_1 : wc.cell? ⟨gb175, 1, none⟩ = some (.int .i64 ((rd_T32 t167 x7_2).f1)) := (blk_cell BK175.out 1).trans rfl
                                  have hcz36_2 : wc.cell? ⟨gb175, 2, none⟩ = some (.string ((rd_T32 t167 x7_2).f2)) := (blk_cell BK175.out 2).trans rfl
                                  have hcz36_3 : wc.cell? ⟨gb175, 3, none⟩ = some (.int .i64 ((rd_T32 t167 x7_2).f3)) := (blk_cell BK175.out 3).trans rfl
                                  have hfz36_0 := blk_frozen BK175.out 0
                                  have hfz36_1 := blk_frozen BK175.out 1
                                  have hfz36_2 := blk_frozen BK175.out 2
                                  have hfz36_3 := blk_frozen BK175.out 3
                                  have p30 : 0 ≤ (((rd_T32 t167 x7_2).f3) : Int) := of_decide_eq_true (by first | (with_reducible assumption) | assumption)
                                  have q30 : ((rd_T32 t167 x7_2).f3) < (x0_1.size : Int) := of_decide_eq_true (by first | (with_reducible assumption) | assumption)
                                  have hx30 := bt_at x0_1 ((rd_T32 t167 x7_2).f3)
                                  replace p30 := eq_true p30
                                  replace q30 := eq_true q30
                                  have p33 : 0 ≤ (((rd_T32 t167 x7_2).f3) : Int) := of_decide_eq_true (by first | (with_reducible assumption) | assumption)
                                  have q33 : ((rd_T32 t167 x7_2).f3) < (x0_1.size : Int) := of_decide_eq_true (by first | (with_reducible assumption) | assumption)
                                  have hx33 := bt_at x0_1 ((rd_T32 t167 x7_2).f3)
                                  replace p33 := eq_true p33
                                  replace q33 := eq_true q33
                                  go_wp2
                                  repeat (go_quiet (fail); try go_wp2)
                                  go_roundg kj9
                                  case measure => have := HJ1.out; have := HK2.out; have := HJ9.out; omega
                                  case rel => exact ⟨(wrap64 (((rd_T32 t167 x7_2).f3) + (ji24))), (wrap64 (x7_2 + 1)), (by first | rfl | (simp; done) | (simp only [← hji24] <;> (first | rfl | simp)) | (simp [*]; done)), (by first | rfl | (simp; done) | (simp [*]; done) | (simp; grind)), H', ⟨by have := HJ1.out; have := HK2.out; have := HJ9.out; omega⟩, ⟨by (with_reducible repeat (first | apply Kd.R_alloc | apply Kd.R_drewN | apply Kd.R_drew)); exact Kd.R_mono HO_3.out (fun _ hk => trivial)⟩, ⟨by repeat (first | (with_reducible first | exact HB.out | apply below_alloc | apply pw_below_drewN | apply below_drew1 | refine below_set ?_ GE175.out) | exact HB.out)⟩⟩
                            · rw [if_neg c29] at H
                              exact absurd H (by simp)
                          · rw [if_neg c28] at H
                            exact absurd H (by simp)
                        · rw [if_neg c27] at H
                          have c27b0 : (((rd_T32 t167 x7_2).f2).toList == ([] : List UInt8)) = false := beq_eq_false_iff_ne.mpr c27
                          have c27b1 : (((rd_T32 t167 x7_2).f2).toList != ([] : List UInt8)) = true := bne_iff_ne.mpr c27
                          by_cases c37 : 0 ≤ ((rd_T32 t167 x7_2).f3)
                          · rw [if_pos c37] at H
                            have c37b0 := eq_true c37
                            have c37b1 : decide (0 ≤ ((rd_T32 t167 x7_2).f3)) = true := decide_eq_true c37
                            clear c37
                            by_cases c38 : ((rd_T32 t167 x7_2).f3) ≤ (wrap64 (((rd_T32 t167 x7_2).f3) + (ji24)))
                            · rw [if_pos c38] at H
                              have c38b0 := eq_true c38
                              have c38b1 : decide (((rd_T32 t167 x7_2).f3) ≤ (wrap64 (((rd_T32 t167 x7_2).f3) + (ji24)))) = true := decide_eq_true c38
                              by_cases c39 : (wrap64 (((rd_T32 t167 x7_2).f3) + (ji24))) ≤ (x0_1.size : Int)
                              · rw [if_pos c39] at H
                                have c39b0 := eq_true c39
                                have c39b1 : decide ((wrap64 (((rd_T32 t167 x7_2).f3) + (ji24))) ≤ (x0_1.size : Int)) = true := decide_eq_true c39
                                by_cases c40 : (x0_1.extract (((rd_T32 t167 x7_2).f3) : Int).toNat ((wrap64 (((rd_T32 t167 x7_2).f3) + (ji24))) : Int).toNat).toList = ((rd_T32 t167 x7_2).f2).toList
                                · rw [if_pos c40] at H
                                  have c40b0 : ((x0_1.extract (((rd_T32 t167 x7_2).f3) : Int).toNat ((wrap64 (((rd_T32 t167 x7_2).f3) + (ji24))) : Int).toNat).toList == ((rd_T32 t167 x7_2).f2).toList) = true := beq_iff_eq.mpr c40
                                  have c40b1 : ((x0_1.extract (((rd_T32 t167 x7_2).f3) : Int).toNat ((wrap64 (((rd_T32 t167 x7_2).f3) + (ji24))) : Int).toNat).toList != ((rd_T32 t167 x7_2).f2).toList) = false := bne_eq_false_iff_eq.mpr c40
                                  clear c40
                                  have H' := Aside0.mk H
                                  clear H
                                  have hcz41_0 : wc.cell? ⟨gb175, 0, none⟩ = some (.int .i64 ((rd_T32 t167 x7_2).f0)) := (blk_cell BK175.out 0).trans rfl
                                  have hcz41_1 : wc.cell? ⟨gb175, 1, none⟩ = some (.int .i64 ((rd_T32 t167 x7_2).f1)) := (blk_cell BK175.out 1).trans rfl
                                  have hcz41_2 : wc.cell? ⟨gb175, 2, none⟩ = some (.string ((rd_T32 t167 x7_2).f2)) := (blk_cell BK175.out 2).trans rfl
                                  have hcz41_3 : wc.cell? ⟨gb175, 3, none⟩ = some (.int .i64 ((rd_T32 t167 x7_2).f3)) := (blk_cell BK175.out 3).trans rfl
                                  have hfz41_0 := blk_frozen BK175.out 0
                                  have hfz41_1 := blk_frozen BK175.out 1
                                  have hfz41_2 := blk_frozen BK175.out 2
                                  have hfz41_3 := blk_frozen BK175.out 3
                                  go_wp2
                                  repeat (go_quiet (fail); try go_wp2)
                                  go_roundg kj9
                                  case measure => have := HJ1.out; have := HK2.out; have := HJ9.out; omega
                                  case rel => exact ⟨(wrap64 (((rd_T32 t167 x7_2).f3) + (ji24))), (wrap64 (x7_2 + 1)), (by first | rfl | (simp; done) | (simp only [← hji24] <;> (first | rfl | simp)) | (simp [*]; done)), (by first | rfl | (simp; done) | (simp [*]; done) | (simp; grind)), H', ⟨by have := HJ1.out; have := HK2.out; have := HJ9.out; omega⟩, ⟨by (with_reducible repeat (first | apply Kd.R_alloc | apply Kd.R_drewN | apply Kd.R_drew)); exact Kd.R_mono HO_3.out (fun _ hk => trivial)⟩, ⟨by repeat (first | (with_reducible first | exact HB.out | apply below_alloc | apply pw_below_drewN | apply below_drew1 | refine below_set ?_ GE175.out) | exact HB.out)⟩⟩
                                · rw [if_neg c40] at H
                                  have c40b0 : ((x0_1.extract (((rd_T32 t167 x7_2).f3) : Int).toNat ((wrap64 (((rd_T32 t167 x7_2).f3) + (ji24))) : Int).toNat).toList == ((rd_T32 t167 x7_2).f2).toList) = false := beq_eq_false_iff_ne.mpr c40
                                  have c40b1 : ((x0_1.extract (((rd_T32 t167 x7_2).f3) : Int).toNat ((wrap64 (((rd_T32 t167 x7_2).f3) + (ji24))) : Int).toNat).toList != ((rd_T32 t167 x7_2).f2).toList) = true := bne_iff_ne.mpr c40
                                  obtain rfl := Option.some.inj H
                                  have hcz42_0 : wc.cell? ⟨gb175, 0, none⟩ = some (.int .i64 ((rd_T32 t167 x7_2).f0)) := (blk_cell BK175.out 0).trans rfl
                                  have hcz42_1 : wc.cell? ⟨gb175, 1, none⟩ = some (.int .i64 ((rd_T32 t167 x7_2).f1)) := (blk_cell BK175.out 1).trans rfl
                                  have hcz42_2 : wc.cell? ⟨gb175, 2, none⟩ = some (.string ((rd_T32 t167 x7_2).f2)) := (blk_cell BK175.out 2).trans rfl
                                  have hcz42_3 : wc.cell? ⟨gb175, 3, none⟩ = some (.int .i64 ((rd_T32 t167 x7_2).f3)) := (blk_cell BK175.out 3).trans rfl
                                  have hfz42_0 := blk_frozen BK175.out 0
                                  have hfz42_1 := blk_frozen BK175.out 1
                                  have hfz42_2 := blk_frozen BK175.out 2
                                  have hfz42_3 := blk_frozen BK175.out 3
                                  go_wp2
                                  repeat (go_quiet (fail); try go_wp2)
                                  go_ret
                                  exact ⟨by first | rfl | (simp [errW_none, errW_some] <;> rfl) | (simp only [← hji24]; first | rfl | (simp [errW_none, errW_some] <;> rfl)) | (simp [*, errW_none, errW_some] <;> rfl), by repeat (first | (with_reducible first | exact HB.out | apply below_alloc | apply pw_below_drewN | apply below_drew1 | refine below_set ?_ GE175.out) | exact HB.out)⟩
                              · rw [if_neg c39] at H
                                exact absurd H (by simp)
                            · rw [if_neg c38] at H
                              exact absurd H (by simp)
                          · rw [if_neg c37] at H
                            exact absurd H (by simp)
              · rw [if_neg c9] at H
                exact absurd H (by simp)
            · rw [if_neg c8] at H
              have c8b0 : decide (x7_2 < (t167.length : Int)) = false := decide_eq_false c8
              clear c8
              replace H := Option.bind_eq_some_iff.mp H
              obtain ⟨t173, A430, H⟩ := H
              replace H : (some t173) = some r := H
              have A43 := Aside0.mk A430
              clear A430
              obtain rfl := Option.some.inj H
              obtain ⟨Ao44, co44, eo44⟩ := Kd.R_slice HO_3.out
              subst eo44
              go_wp2_with (first | (go_at_call 22; (with_reducible refine (headgatelaw20_awake.calls k2  t173 _ A43.out).mono ?_); rintro e w45 ⟨rfl, hb⟩; have n0_ := Aside0.mk (Kd.R_below (by (with_reducible repeat (first | apply Kd.R_alloc | apply Kd.R_drewN | apply Kd.R_drew)); exact HO_3.out) hb); have n1_ := Aside0.mk (below_step (by repeat (first | (with_reducible first | exact HB.out | apply below_alloc | apply pw_below_drewN | apply below_drew1) | exact HB.out)) hb); clear HO_3; clear HB; have HO_3 := n0_; have HB := n1_; clear n0_ n1_; (try clear hb); (try clear hb2); (try clear hk); (try clear hi)))
              repeat (go_quiet (first | (go_at_call 22; (with_reducible refine (headgatelaw20_awake.calls k2  t173 _ A43.out).mono ?_); rintro e w45 ⟨rfl, hb⟩; have n0_ := Aside0.mk (Kd.R_below (by (with_reducible repeat (first | apply Kd.R_alloc | apply Kd.R_drewN | apply Kd.R_drew)); exact HO_3.out) hb); have n1_ := Aside0.mk (below_step (by repeat (first | (with_reducible first | exact HB.out | apply below_alloc | apply pw_below_drewN | apply below_drew1) | exact HB.out)) hb); clear HO_3; clear HB; have HO_3 := n0_; have HB := n1_; clear n0_ n1_; (try clear hb); (try clear hb2); (try clear hk); (try clear hi))); try go_wp2_with (first | (go_at_call 22; (with_reducible refine (headgatelaw20_awake.calls k2  t173 _ A43.out).mono ?_); rintro e w45 ⟨rfl, hb⟩; have n0_ := Aside0.mk (Kd.R_below (by (with_reducible repeat (first | apply Kd.R_alloc | apply Kd.R_drewN | apply Kd.R_drew)); exact HO_3.out) hb); have n1_ := Aside0.mk (below_step (by repeat (first | (with_reducible first | exact HB.out | apply below_alloc | apply pw_below_drewN | apply below_drew1) | exact HB.out)) hb); clear HO_3; clear HB; have HO_3 := n0_; have HB := n1_; clear n0_ n1_; (try clear hb); (try clear hb2); (try clear hk); (try clear hi))))
              go_ret
              exact ⟨by first | rfl | (simp [errW_none, errW_some] <;> rfl) | (simp [*, errW_none, errW_some] <;> rfl), by repeat (first | (with_reducible first | exact HB.out | apply below_alloc | apply pw_below_drewN | apply below_drew1) | exact HB.out)⟩
      · rw [if_neg c6] at H
        have c6b0 : (t169 == 0) = false := beq_eq_false_iff_ne.mpr c6
        have c6b1 : (t169 != 0) = true := bne_iff_ne.mpr c6
        by_cases c46 : (t167.length : Int) = 0
        · rw [if_pos c46] at H
          have c46b0 : ((t167.length : Int) == 0) = true := beq_iff_eq.mpr c46
          have c46b1 : ((t167.length : Int) != 0) = false := bne_eq_false_iff_eq.mpr c46
          clear c46
          replace H := Option.bind_eq_some_iff.mp H
          obtain ⟨t172, A470, H⟩ := H
          replace H : (some t172) = some r := H
          have A47 := Aside0.mk A470
          clear A470
          obtain rfl := Option.some.inj H
          go_wp2_with (first | (go_at_call 19; (with_reducible refine (lex_Cut.calls kj1 x0_1 t167 t168 t169 _ A5.out).mono ?_); rintro e w48 ⟨v170, rfl, ho0, hb⟩; have n0_ := Aside0.mk (Kd.R_lower ho0 (below_size (by repeat (first | (with_reducible first | exact HB.out | apply below_alloc | apply pw_below_drewN | apply below_drew1) | exact HB.out)))); have n1_ := Aside0.mk (below_step (by repeat (first | (with_reducible first | exact HB.out | apply below_alloc | apply pw_below_drewN | apply below_drew1) | exact HB.out)) hb); clear HB; have HO171 := n0_; have HB := n1_; clear n0_ n1_; (try clear hb); (try clear hb2); (try clear hk); (try clear hi); (try clear ho0); obtain ⟨Ao49, co49, eo49⟩ := Kd.R_slice HO171.out; subst eo49) | (go_at_call 22; (with_reducible refine (headgatelaw20_awake.calls kj1  t172 _ A47.out).mono ?_); rintro e w50 ⟨rfl, hb⟩; have n0_ := Aside0.mk (Kd.R_below (by (with_reducible repeat (first | apply Kd.R_alloc | apply Kd.R_drewN | apply Kd.R_drew)); exact HO171.out) hb); have n1_ := Aside0.mk (below_step (by repeat (first | (with_reducible first | exact HB.out | apply below_alloc | apply pw_below_drewN | apply below_drew1) | exact HB.out)) hb); clear HO171; clear HB; have HO171 := n0_; have HB := n1_; clear n0_ n1_; (try clear hb); (try clear hb2); (try clear hk); (try clear hi)))
          repeat (go_quiet (first | (go_at_call 19; (with_reducible refine (lex_Cut.calls kj1 x0_1 t167 t168 t169 _ A5.out).mono ?_); rintro e w48 ⟨v170, rfl, ho0, hb⟩; have n0_ := Aside0.mk (Kd.R_lower ho0 (below_size (by repeat (first | (with_reducible first | exact HB.out | apply below_alloc | apply pw_below_drewN | apply below_drew1) | exact HB.out)))); have n1_ := Aside0.mk (below_step (by repeat (first | (with_reducible first | exact HB.out | apply below_alloc | apply pw_below_drewN | apply below_drew1) | exact HB.out)) hb); clear HB; have HO171 := n0_; have HB := n1_; clear n0_ n1_; (try clear hb); (try clear hb2); (try clear hk); (try clear hi); (try clear ho0); obtain ⟨Ao49, co49, eo49⟩ := Kd.R_slice HO171.out; subst eo49) | (go_at_call 22; (with_reducible refine (headgatelaw20_awake.calls kj1  t172 _ A47.out).mono ?_); rintro e w50 ⟨rfl, hb⟩; have n0_ := Aside0.mk (Kd.R_below (by (with_reducible repeat (first | apply Kd.R_alloc | apply Kd.R_drewN | apply Kd.R_drew)); exact HO171.out) hb); have n1_ := Aside0.mk (below_step (by repeat (first | (with_reducible first | exact HB.out | apply below_alloc | apply pw_below_drewN | apply below_drew1) | exact HB.out)) hb); clear HO171; clear HB; have HO171 := n0_; have HB := n1_; clear n0_ n1_; (try clear hb); (try clear hb2); (try clear hk); (try clear hi))); try go_wp2_with (first | (go_at_call 19; (with_reducible refine (lex_Cut.calls kj1 x0_1 t167 t168 t169 _ A5.out).mono ?_); rintro e w48 ⟨v170, rfl, ho0, hb⟩; have n0_ := Aside0.mk (Kd.R_lower ho0 (below_size (by repeat (first | (with_reducible first | exact HB.out | apply below_alloc | apply pw_below_drewN | apply below_drew1) | exact HB.out)))); have n1_ := Aside0.mk (below_step (by repeat (first | (with_reducible first | exact HB.out | apply below_alloc | apply pw_below_drewN | apply below_drew1) | exact HB.out)) hb); clear HB; have HO171 := n0_; have HB := n1_; clear n0_ n1_; (try clear hb); (try clear hb2); (try clear hk); (try clear hi); (try clear ho0); obtain ⟨Ao49, co49, eo49⟩ := Kd.R_slice HO171.out; subst eo49) | (go_at_call 22; (with_reducible refine (headgatelaw20_awake.calls kj1  t172 _ A47.out).mono ?_); rintro e w50 ⟨rfl, hb⟩; have n0_ := Aside0.mk (Kd.R_below (by (with_reducible repeat (first | apply Kd.R_alloc | apply Kd.R_drewN | apply Kd.R_drew)); exact HO171.out) hb); have n1_ := Aside0.mk (below_step (by repeat (first | (with_reducible first | exact HB.out | apply below_alloc | apply pw_below_drewN | apply below_drew1) | exact HB.out)) hb); clear HO171; clear HB; have HO171 := n0_; have HB := n1_; clear n0_ n1_; (try clear hb); (try clear hb2); (try clear hk); (try clear hi))))
          go_ret
          exact ⟨by first | rfl | (simp [errW_none, errW_some] <;> rfl) | (simp [*, errW_none, errW_some] <;> rfl), by repeat (first | (with_reducible first | exact HB.out | apply below_alloc | apply pw_below_drewN | apply below_drew1) | exact HB.out)⟩
        · rw [if_neg c46] at H
          have c46b0 : ((t167.length : Int) == 0) = false := beq_eq_false_iff_ne.mpr c46
          have c46b1 : ((t167.length : Int) != 0) = true := bne_iff_ne.mpr c46
          have c46b2 : ¬ (t167 = []) := fun h_ => c46 (by rw [h_]; rfl)
          obtain rfl := Option.some.inj H
          go_wp2_with (first | (go_at_call 19; (with_reducible refine (lex_Cut.calls kj1 x0_1 t167 t168 t169 _ A5.out).mono ?_); rintro e w51 ⟨v170, rfl, ho0, hb⟩; have n0_ := Aside0.mk (Kd.R_lower ho0 (below_size (by repeat (first | (with_reducible first | exact HB.out | apply below_alloc | apply pw_below_drewN | apply below_drew1) | exact HB.out)))); have n1_ := Aside0.mk (below_step (by repeat (first | (with_reducible first | exact HB.out | apply below_alloc | apply pw_below_drewN | apply below_drew1) | exact HB.out)) hb); clear HB; have HO171 := n0_; have HB := n1_; clear n0_ n1_; (try clear hb); (try clear hb2); (try clear hk); (try clear hi); (try clear ho0); obtain ⟨Ao52, co52, eo52⟩ := Kd.R_slice HO171.out; subst eo52))
          repeat (go_quiet (first | (go_at_call 19; (with_reducible refine (lex_Cut.calls kj1 x0_1 t167 t168 t169 _ A5.out).mono ?_); rintro e w51 ⟨v170, rfl, ho0, hb⟩; have n0_ := Aside0.mk (Kd.R_lower ho0 (below_size (by repeat (first | (with_reducible first | exact HB.out | apply below_alloc | apply pw_below_drewN | apply below_drew1) | exact HB.out)))); have n1_ := Aside0.mk (below_step (by repeat (first | (with_reducible first | exact HB.out | apply below_alloc | apply pw_below_drewN | apply below_drew1) | exact HB.out)) hb); clear HB; have HO171 := n0_; have HB := n1_; clear n0_ n1_; (try clear hb); (try clear hb2); (try clear hk); (try clear hi); (try clear ho0); obtain ⟨Ao52, co52, eo52⟩ := Kd.R_slice HO171.out; subst eo52)); try go_wp2_with (first | (go_at_call 19; (with_reducible refine (lex_Cut.calls kj1 x0_1 t167 t168 t169 _ A5.out).mono ?_); rintro e w51 ⟨v170, rfl, ho0, hb⟩; have n0_ := Aside0.mk (Kd.R_lower ho0 (below_size (by repeat (first | (with_reducible first | exact HB.out | apply below_alloc | apply pw_below_drewN | apply below_drew1) | exact HB.out)))); have n1_ := Aside0.mk (below_step (by repeat (first | (with_reducible first | exact HB.out | apply below_alloc | apply pw_below_drewN | apply below_drew1) | exact HB.out)) hb); clear HB; have HO171 := n0_; have HB := n1_; clear n0_ n1_; (try clear hb); (try clear hb2); (try clear hk); (try clear hi); (try clear ho0); obtain ⟨Ao52, co52, eo52⟩ := Kd.R_slice HO171.out; subst eo52)))
          go_ret
          exact ⟨by first | rfl | (simp [errW_none, errW_some] <;> rfl) | (simp [*, errW_none, errW_some] <;> rfl), by repeat (first | (with_reducible first | exact HB.out | apply below_alloc | apply pw_below_drewN | apply below_drew1) | exact HB.out)⟩

/-- THE ONE PURE STATEMENT of headgatelaw20_LexOrder: yours. -/
def headgatelaw20_LexOrder.Pure : Prop := ∀ (a0 : ByteArray), a0.size ≤ 140737488351232 → ∃ k, headgatelaw20_LexOrder.f k a0 = some true
theorem headgatelaw20_LexOrder.walk (P : headgatelaw20_LexOrder.Pure) (a0 : ByteArray) (w : World) (w0 : a0.size ≤ 140737488351232) :
    Calls Tryd.prog 4 #[.string a0] w fun e w' => e = .returned (.bool true) ∧ Below w.heap.size w w' := by
  obtain ⟨k, h⟩ := P a0 w0
  refine (headgatelaw20_LexOrder.calls k a0 true w h).mono ?_
  rintro e w' ⟨rfl, hd⟩
  exact ⟨rfl, hd⟩

end Go.Proofs.YtdbccnhdblljbaaDoor.P
