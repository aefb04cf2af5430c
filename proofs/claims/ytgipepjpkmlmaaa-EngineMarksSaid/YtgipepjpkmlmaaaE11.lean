import Derived.Test.YtgipepjpkmlmaaaM8
namespace Go.Proofs.Ytgipepjpkmlmaaa.P
open Go.RowKit Go.Proofs.YtgipepjpkmlmaaaW.PrintWords Go.Proofs.YtgipepjpkmlmaaaW.PrintLast Go.Proofs.YtgipepjpkmlmaaaW.PrintMore
set_option linter.unusedVariables false
set_option linter.unusedSimpArgs false

/-- What a law holds behind its Run: the state's box, what is over, the error. -/
structure RunRes (w wc : World) (p : S28 × List S46 × Int) (v5 v6 v7 : Value) : Prop where
  e0 : v7 = .int .i64 p.2.2
  box : ∃ gb A c, v5 = .pointer (some ⟨gb, 0, none⟩) ∧ wc.heap[gb]? = some (.cells #[.int .i64 p.1.f0, .int .i64 p.1.f1, .int .i64 p.1.f2, .int .i64 p.1.f3, .slice A p.1.f4.length c] 28 (0, 0)) ∧ Kd.R k46 46 wc w.heap.size (fun _ => True) (.slice A p.1.f4.length c) p.1.f4
  row : ∃ A c, v6 = .slice A p.2.1.length c ∧ Kd.R k46 46 wc w.heap.size (fun _ => True) (.slice A p.2.1.length c) p.2.1

set_option maxHeartbeats 16000000 in
set_option maxRecDepth 100000 in
theorem engineMarks_walk (g : S23) (A : Option Addr) (c : Nat) (l : List S50) (w : World) (hr : k50.C w A l.length l) (hc : l.length ≤ c) :
    Calls Try.prog 6 #[gridV g, .slice A l.length c] w fun e w' => e = .returned (.bool true) ∧ Below w.heap.size w w' := by
  have h16 := fun w => engine_Zero.calls (-1) 0 0 0 [] w rfl
  have H16 := Lib.hid h16
  obtain ⟨WB, hWB⟩ : ∃ W, W = w.alloc (.cells #[.int .i64 g.f0, .int .i64 g.f1, .int .i64 g.f2] 23) := ⟨_, rfl⟩
  have hgB : WB.heap[w.heap.size]? = some (.cells #[.int .i64 g.f0, .int .i64 g.f1, .int .i64 g.f2] 23 (0, 0)) := by rw [hWB]; exact heap_alloc_new _ _
  have hbB : Below w.heap.size w WB := by rw [hWB]; exact (Below.refl _ _).alloc (Nat.le_refl _) _
  have hsome := some_calls A c l WB (Kd.C_below hr hbB) hc
  obtain ⟨L, hL⟩ : ∃ L, someP l = L := ⟨_, rfl⟩
  have hLl := someP_length l
  have hLs := someP_size l
  rw [hL] at hsome hLl hLs
  have HSOME := Lib.hid hsome
  have HWB := Lib.hid hWB
  have HGB0 := Lib.hid hgB
  have HBB := Lib.hid hbB
  have HLS := Lib.hid hLs
  clear h16 hsome hWB hgB hbB hL hLs hr hc
  go_enter Try.func6, Try.ntmps6
  go_upto_region 2 with (first | (go_at_call 14; go_loud (rw [← HWB.out]; (with_reducible refine HSOME.out.mono ?_); rintro e WX ⟨v1, rfl, hR1, hb1⟩; obtain ⟨A1, c1, rfl, hc1, hL1⟩ := Kd.R_reads hR1; have HGX := Lib.hid (blk_below HGB0.out hb1); have HL1 := Lib.hid hL1; have HBX := Lib.hid (HBB.out.trans (hb1.mono HBB.out.size)); clear hR1 hL1 hb1)))
  have hrun : ∀ (W : World) (A : Option Addr) (c : Nat), (A = none → ([] : List S46) = [] ∧ c = 0) → k50.C W A1 L.length L → Calls Try.prog 15 #[.agg #[.int .i64 g.f0, .int .i64 g.f1, .int .i64 g.f2], .agg #[.int .i64 (-1), .int .i64 0, .int .i64 0, .int .i64 0, .slice A 0 c], .slice A1 L.length c1] W (FedP W (runP g awZ L)) :=
    fun W A c hn hB => run_calls g awZ L A A1 c c1 W (C_nil46 W A) (Nat.zero_le _) (by decide) hn hB hc1 (by omega) (fun r h => Nat.le_trans (HLS.out r h) (by omega))
  have hmarks := marks_law g L (by omega)
  have herr := run_err_p g L awZ
  obtain ⟨P, hP⟩ : ∃ P, runP g awZ L = P := ⟨_, rfl⟩
  rw [hP] at hrun hmarks herr
  obtain ⟨⟨p0, p1, p2, p3, p4⟩, po, pe⟩ := P
  simp only at hmarks herr
  have HRUN := Lib.hid hrun
  have HMK := Lib.hid hmarks
  have HER := Lib.hid herr
  clear hrun hmarks herr hP
  go_cut [5, 6, 7] from 15 to 22 (fun v5 v6 v7 wc => RunRes WX wc (⟨p0, p1, p2, p3, p4⟩, po, pe) v5 v6 v7 ∧ Below WX.heap.size WX wc)
  case first =>
    refine wp_region_held_drew (S := fun w_ => Below WX.heap.size WX w_) (by kernel_rfl) (below_drew (Below.refl _ _)) (fun hS_ => ?_)
    have hS : Below WX.heap.size WX _ := hS_
    clear hS_
    change wpAnyH _ _ _ _ _ 12 #[false, false, false, false, false, false, false, false, false, false, false, false] _ _
    refine takeD (i := 0) (ac2 := ?aa0_1) (v := ?v0_1) (d := some 16) (ls2 := #[true, false, false, false, false, false, false, false, false, false, false, false]) rfl rfl (by kernel_rfl) (by kernel_rfl) (by kernel_rfl) (fun _ _ _ h => h) (Or.inl ⟨by kernel_rfl, ?hy0_1⟩) hS (by kernel_rfl) ?ha0_1 ?_
    case hy0_1 => intro w_ hS_; (replace hS_ : Below WX.heap.size WX w_ := hS_); have q_ := blk_below HGX.out hS_; have q0_ : w_.cell? ⟨w.heap.size, 0, none⟩ = some (.int .i64 g.f0) := (blk_cell q_ 0).trans rfl; have q1_ : w_.cell? ⟨w.heap.size, 1, none⟩ = some (.int .i64 g.f1) := (blk_cell q_ 1).trans rfl; have q2_ : w_.cell? ⟨w.heap.size, 2, none⟩ = some (.int .i64 g.f2) := (blk_cell q_ 2).trans rfl; first | (go_simp; done) | (go_simp; with_reducible rfl)
    case ha0_1 => first | (simp only [Act.put, List.setIfInBounds_toArray, List.set_cons_zero, List.set_cons_succ]; done) | (simp only [Act.put, List.setIfInBounds_toArray, List.set_cons_zero, List.set_cons_succ]; with_reducible rfl) | exact rfl
    refine takeD (i := 2) (ac2 := ?aa2_2) (v := ?v2_2) (d := some 18) (ls2 := #[true, false, true, false, false, false, false, false, false, false, false, false]) rfl rfl (by kernel_rfl) (by kernel_rfl) (by kernel_rfl) (fun _ _ _ h => h) (Or.inl ⟨by kernel_rfl, ?hy2_2⟩) hS (by kernel_rfl) ?ha2_2 ?_
    case hy2_2 => intro w_ hS_; first | (go_simp; done) | (go_simp; with_reducible rfl)
    case ha2_2 => first | (simp only [Act.put, List.setIfInBounds_toArray, List.set_cons_zero, List.set_cons_succ]; done) | (simp only [Act.put, List.setIfInBounds_toArray, List.set_cons_zero, List.set_cons_succ]; with_reducible rfl) | exact rfl
    refine doD2 (i := 1) (j := 8) (l2 := #[true, true, true, false, false, false, false, false, false, false, false, false]) (l3 := #[true, false, true, false, false, false, false, false, true, false, false, false]) (by kernel_rfl) rfl rfl (by kernel_rfl) (by kernel_rfl) (by kernel_rfl) (by kernel_rfl) (fun K hK => ?_) (fun K hK => ?_)
    · go_simp
      go_wp2_with (first | (go_at_call 16; go_loud ((with_reducible refine (H16.out _).mono ?_); rintro e wq1 ⟨vz, rfl, hRz, hb1⟩; obtain ⟨Az, cz, rfl, hcz, _⟩ := Kd.R_reads hRz; have HNZ := Lib.hid (R_nil26 hRz); clear hRz hcz)))
      refine hK.out _ _ ?_ (fun hS_ => ?_)
      · show Below WX.heap.size WX _
        exact hS.trans (hb1.mono hS.size)
      clear hK K hS
      have hS : Below WX.heap.size WX _ := hS_
      clear hS_
      clear hb1
      refine doD2 (i := 3) (j := 8) (l2 := #[true, true, true, true, false, false, false, false, false, false, false, false]) (l3 := #[true, true, true, false, false, false, false, false, true, false, false, false]) (by kernel_rfl) rfl rfl (by kernel_rfl) (by kernel_rfl) (by kernel_rfl) (by kernel_rfl) (fun K hK => ?_) (fun K hK => ?_)
      · go_simp
        go_wp2_with (first | (go_at_call 15; go_loud ((with_reducible refine (HRUN.out _ _ _ HNZ.out (Kd.C_below HL1.out hS)).mono ?_); have HSS := Lib.hid hS.size; rintro e wr ⟨v6, vo, rfl, hR6, hRo, hb6⟩; obtain ⟨A6, c6, rfl, hc6, _⟩ := Kd.R_reads hR6; obtain ⟨Ao, co, rfl, hco, _⟩ := Kd.R_reads hRo; have HR4 := Lib.hid (R_base hR6 HSS.out (Nat.le_refl _)); have HR6 := Lib.hid (R_base hRo HSS.out (Nat.le_refl _)); clear hR6 hRo)))
        refine hK.out _ _ ?_ (fun hS_ => ?_)
        · show Below WX.heap.size WX _
          exact hS.trans (hb6.mono hS.size)
        clear hK K hS
        have hS : Below WX.heap.size WX _ := hS_
        clear hS_
        clear hb6
        refine takeD (i := 4) (ac2 := ?aa4_3) (v := ?v4_3) (d := some 15) (ls2 := #[true, true, true, true, true, false, false, false, false, false, false, false]) rfl rfl (by kernel_rfl) (by kernel_rfl) (by kernel_rfl) (fun _ _ _ h => h) (Or.inl ⟨by kernel_rfl, ?hy4_3⟩) hS (by kernel_rfl) ?ha4_3 ?_
        case hy4_3 => intro w_ hS_; first | (go_simp; done) | (go_simp; with_reducible rfl)
        case ha4_3 => first | (simp only [Act.put, List.setIfInBounds_toArray, List.set_cons_zero, List.set_cons_succ]; done) | (simp only [Act.put, List.setIfInBounds_toArray, List.set_cons_zero, List.set_cons_succ]; with_reducible rfl) | exact rfl
        refine takeD (i := 5) (ac2 := ?aa5_4) (v := ?v5_4) (d := some 20) (ls2 := #[true, true, true, true, true, true, false, false, false, false, false, false]) rfl rfl (by kernel_rfl) (by kernel_rfl) (by kernel_rfl) (fun _ _ _ h => h) (Or.inl ⟨by kernel_rfl, ?hy5_4⟩) hS (by kernel_rfl) ?ha5_4 ?_
        case hy5_4 => intro w_ hS_; first | (go_simp; done) | (go_simp; with_reducible rfl)
        case ha5_4 => first | (simp only [Act.put, List.setIfInBounds_toArray, List.set_cons_zero, List.set_cons_succ]; done) | (simp only [Act.put, List.setIfInBounds_toArray, List.set_cons_zero, List.set_cons_succ]; with_reducible rfl) | exact rfl
        refine takeD (i := 6) (ac2 := ?aa6_5) (v := ?v6_5) (d := some 21) (ls2 := #[true, true, true, true, true, true, true, false, false, false, false, false]) rfl rfl (by kernel_rfl) (by kernel_rfl) (by kernel_rfl) (fun _ _ _ h => h) (Or.inl ⟨by kernel_rfl, ?hy6_5⟩) hS (by kernel_rfl) ?ha6_5 ?_
        case hy6_5 => intro w_ hS_; first | (go_simp; done) | (go_simp; with_reducible rfl)
        case ha6_5 => first | (simp only [Act.put, List.setIfInBounds_toArray, List.set_cons_zero, List.set_cons_succ]; done) | (simp only [Act.put, List.setIfInBounds_toArray, List.set_cons_zero, List.set_cons_succ]; with_reducible rfl) | exact rfl
        refine takeD (i := 7) (ac2 := ?aa7_6) (v := ?v7_6) (d := some 22) (ls2 := #[true, true, true, true, true, true, true, true, false, false, false, false]) rfl rfl (by kernel_rfl) (by kernel_rfl) (by kernel_rfl) (fun _ _ _ h => h) (Or.inl ⟨by kernel_rfl, ?hy7_6⟩) hS (by kernel_rfl) ?ha7_6 ?_
        case hy7_6 => intro w_ hS_; first | (go_simp; done) | (go_simp; with_reducible rfl)
        case ha7_6 => first | (simp only [Act.put, List.setIfInBounds_toArray, List.set_cons_zero, List.set_cons_succ]; done) | (simp only [Act.put, List.setIfInBounds_toArray, List.set_cons_zero, List.set_cons_succ]; with_reducible rfl) | exact rfl
        have hSr := Lib.hid hS
        refine doD (i := 8) (ls2 := #[true, true, true, true, true, true, true, true, true, false, false, false]) (by kernel_rfl) rfl (by kernel_rfl) (by kernel_rfl) (fun K hK => ?_)
        go_simp
        refine hK.out _ _ ?_ (fun hS_ => ?_)
        · show Below WX.heap.size WX _
          exact hS.alloc hS.size _
        clear hK K hS
        have hS : Below WX.heap.size WX _ := hS_
        clear hS_
        refine doD (i := 9) (ls2 := #[true, true, true, true, true, true, true, true, true, true, false, false]) (by kernel_rfl) rfl (by kernel_rfl) (by kernel_rfl) (fun K hK => ?_)
        go_simp
        refine hK.out _ _ ?_ (fun hS_ => ?_)
        · show Below WX.heap.size WX _
          exact (hSr.out).alloc hSr.out.size _
        clear hK K hS
        have hS : Below WX.heap.size WX _ := hS_
        clear hS_
        refine takeD (i := 10) (ac2 := ?aa10_7) (v := ?v10_7) (d := some 6) (ls2 := #[true, true, true, true, true, true, true, true, true, true, true, false]) rfl rfl (by kernel_rfl) (by kernel_rfl) (by kernel_rfl) (fun _ _ _ h => h) (Or.inl ⟨by kernel_rfl, ?hy10_7⟩) hS (by kernel_rfl) ?ha10_7 ?_
        case hy10_7 => intro w_ hS_; first | (go_simp; done) | (go_simp; with_reducible rfl)
        case ha10_7 => first | (simp only [Act.put, List.setIfInBounds_toArray, List.set_cons_zero, List.set_cons_succ]; done) | (simp only [Act.put, List.setIfInBounds_toArray, List.set_cons_zero, List.set_cons_succ]; with_reducible rfl) | exact rfl
        refine takeD (i := 11) (ac2 := ?aa11_8) (v := ?v11_8) (d := some 7) (ls2 := #[true, true, true, true, true, true, true, true, true, true, true, true]) rfl rfl (by kernel_rfl) (by kernel_rfl) (by kernel_rfl) (fun _ _ _ h => h) (Or.inl ⟨by kernel_rfl, ?hy11_8⟩) hS (by kernel_rfl) ?ha11_8 ?_
        case hy11_8 => intro w_ hS_; first | (go_simp; done) | (go_simp; with_reducible rfl)
        case ha11_8 => first | (simp only [Act.put, List.setIfInBounds_toArray, List.set_cons_zero, List.set_cons_succ]; done) | (simp only [Act.put, List.setIfInBounds_toArray, List.set_cons_zero, List.set_cons_succ]; with_reducible rfl) | exact rfl
        refine wpAnyH_done (by kernel_rfl) ?_ _
        go_wp2
        go_meet
        case rel =>
          have h4 := R_ok (ok2 := fun _ => True) (Kd.R_below HR4.out ((Below.refl _ _).alloc (Nat.le_refl _) (.cells #[.int .i64 p0, .int .i64 p1, .int .i64 p2, .int .i64 p3, .slice A6 p4.length c6] 28))) (fun _ _ => trivial)
          have h6 := R_ok (ok2 := fun _ => True) (Kd.R_below HR6.out ((Below.refl _ _).alloc (Nat.le_refl _) (.cells #[.int .i64 p0, .int .i64 p1, .int .i64 p2, .int .i64 p3, .slice A6 p4.length c6] 28))) (fun _ _ => trivial)
          exact ⟨⟨rfl, ⟨_, A6, c6, rfl, heap_alloc_new _ _, h4⟩, ⟨_, _, rfl, h6⟩⟩, hS⟩
      · have hgbl := Lib.hid hS.size
        go_simp
        refine hK.out _ _ ?_ (fun hS_ => ?_)
        · show Below WX.heap.size WX _
          exact hS.alloc hS.size _
        clear hK K hS
        have hS : Below WX.heap.size WX _ := hS_
        clear hS_
        have HGB := hgbl
        clear hgbl
        refine doD (i := 3) (ls2 := #[true, true, true, true, false, false, false, false, true, false, false, false]) (by kernel_rfl) rfl (by kernel_rfl) (by kernel_rfl) (fun K hK => ?_)
        go_simp
        go_wp2_with (first | (go_at_call 15; go_loud ((with_reducible refine (HRUN.out _ _ _ HNZ.out (Kd.C_below HL1.out hS)).mono ?_); have hz0 := heap_alloc_new wq1 (.cells #[.int .i64 0, .int .i64 0, .int .i64 0, .int .i64 0, .slice none 0 0] 28); have HZ := Lib.hid hz0; clear hz0; have HSS := Lib.hid hS.size; rintro e wr ⟨v6, vo, rfl, hR6, hRo, hb6⟩; obtain ⟨A6, c6, rfl, hc6, _⟩ := Kd.R_reads hR6; obtain ⟨Ao, co, rfl, hco, _⟩ := Kd.R_reads hRo; have HR4 := Lib.hid (R_base hR6 HSS.out (Nat.le_refl _)); have HR6 := Lib.hid (R_base hRo HSS.out (Nat.le_refl _)); have HZL := Lib.hid (lt_of_block HZ.out); have hz6 := blk_below HZ.out hb6; have z0_ : wr.cell? ⟨_, 0, none⟩ = some (.int .i64 0) := (blk_cell hz6 0).trans rfl; have z1_ : wr.cell? ⟨_, 1, none⟩ = some (.int .i64 0) := (blk_cell hz6 1).trans rfl; have z2_ : wr.cell? ⟨_, 2, none⟩ = some (.int .i64 0) := (blk_cell hz6 2).trans rfl; have z3_ : wr.cell? ⟨_, 3, none⟩ = some (.int .i64 0) := (blk_cell hz6 3).trans rfl; have z4_ : wr.cell? ⟨_, 4, none⟩ = some (.slice none 0 0) := (blk_cell hz6 4).trans rfl; have y0_ : wr.frozen? ⟨_, 0, none⟩ = false := blk_frozen hz6 0; have y1_ : wr.frozen? ⟨_, 1, none⟩ = false := blk_frozen hz6 1; have y2_ : wr.frozen? ⟨_, 2, none⟩ = false := blk_frozen hz6 2; have y3_ : wr.frozen? ⟨_, 3, none⟩ = false := blk_frozen hz6 3; have y4_ : wr.frozen? ⟨_, 4, none⟩ = false := blk_frozen hz6 4; replace HZ := Lib.hid hz6; clear hz6; clear hR6 hRo)))
        refine hK.out _ _ ?_ (fun hS_ => ?_)
        · show Below WX.heap.size WX _
          exact hS.trans (hb6.mono hS.size)
        clear hK K hS
        have hS : Below WX.heap.size WX _ := hS_
        clear hS_
        clear hb6
        refine takeD (i := 4) (ac2 := ?aa4_9) (v := ?v4_9) (d := some 15) (ls2 := #[true, true, true, true, true, false, false, false, true, false, false, false]) rfl rfl (by kernel_rfl) (by kernel_rfl) (by kernel_rfl) (fun _ _ _ h => h) (Or.inl ⟨by kernel_rfl, ?hy4_9⟩) hS (by kernel_rfl) ?ha4_9 ?_
        case hy4_9 => intro w_ hS_; first | (go_simp; done) | (go_simp; with_reducible rfl)
        case ha4_9 => first | (simp only [Act.put, List.setIfInBounds_toArray, List.set_cons_zero, List.set_cons_succ]; done) | (simp only [Act.put, List.setIfInBounds_toArray, List.set_cons_zero, List.set_cons_succ]; with_reducible rfl) | exact rfl
        refine takeD (i := 5) (ac2 := ?aa5_10) (v := ?v5_10) (d := some 20) (ls2 := #[true, true, true, true, true, true, false, false, true, false, false, false]) rfl rfl (by kernel_rfl) (by kernel_rfl) (by kernel_rfl) (fun _ _ _ h => h) (Or.inl ⟨by kernel_rfl, ?hy5_10⟩) hS (by kernel_rfl) ?ha5_10 ?_
        case hy5_10 => intro w_ hS_; first | (go_simp; done) | (go_simp; with_reducible rfl)
        case ha5_10 => first | (simp only [Act.put, List.setIfInBounds_toArray, List.set_cons_zero, List.set_cons_succ]; done) | (simp only [Act.put, List.setIfInBounds_toArray, List.set_cons_zero, List.set_cons_succ]; with_reducible rfl) | exact rfl
        refine takeD (i := 6) (ac2 := ?aa6_11) (v := ?v6_11) (d := some 21) (ls2 := #[true, true, true, true, true, true, true, false, true, false, false, false]) rfl rfl (by kernel_rfl) (by kernel_rfl) (by kernel_rfl) (fun _ _ _ h => h) (Or.inl ⟨by kernel_rfl, ?hy6_11⟩) hS (by kernel_rfl) ?ha6_11 ?_
        case hy6_11 => intro w_ hS_; first | (go_simp; done) | (go_simp; with_reducible rfl)
        case ha6_11 => first | (simp only [Act.put, List.setIfInBounds_toArray, List.set_cons_zero, List.set_cons_succ]; done) | (simp only [Act.put, List.setIfInBounds_toArray, List.set_cons_zero, List.set_cons_succ]; with_reducible rfl) | exact rfl
        refine takeD (i := 7) (ac2 := ?aa7_12) (v := ?v7_12) (d := some 22) (ls2 := #[true, true, true, true, true, true, true, true, true, false, false, false]) rfl rfl (by kernel_rfl) (by kernel_rfl) (by kernel_rfl) (fun _ _ _ h => h) (Or.inl ⟨by kernel_rfl, ?hy7_12⟩) hS (by kernel_rfl) ?ha7_12 ?_
        case hy7_12 => intro w_ hS_; first | (go_simp; done) | (go_simp; with_reducible rfl)
        case ha7_12 => first | (simp only [Act.put, List.setIfInBounds_toArray, List.set_cons_zero, List.set_cons_succ]; done) | (simp only [Act.put, List.setIfInBounds_toArray, List.set_cons_zero, List.set_cons_succ]; with_reducible rfl) | exact rfl
        refine doD (i := 9) (ls2 := #[true, true, true, true, true, true, true, true, true, true, false, false]) (by kernel_rfl) rfl (by kernel_rfl) (by kernel_rfl) (fun K hK => ?_)
        go_simp
        refine hK.out _ _ ?_ (fun hS_ => ?_)
        · show Below WX.heap.size WX _
          exact put5_belowZ hS HZ.out (by have h0 := HGB.out; first | omega | (simp at h0; omega)) (.int .i64 p0) (.int .i64 p1) (.int .i64 p2) (.int .i64 p3) (.slice A6 p4.length c6)
        clear hK K hS
        have hS : Below WX.heap.size WX _ := hS_
        clear hS_
        refine takeD (i := 10) (ac2 := ?aa10_13) (v := ?v10_13) (d := some 6) (ls2 := #[true, true, true, true, true, true, true, true, true, true, true, false]) rfl rfl (by kernel_rfl) (by kernel_rfl) (by kernel_rfl) (fun _ _ _ h => h) (Or.inl ⟨by kernel_rfl, ?hy10_13⟩) hS (by kernel_rfl) ?ha10_13 ?_
        case hy10_13 => intro w_ hS_; first | (go_simp; done) | (go_simp; with_reducible rfl)
        case ha10_13 => first | (simp only [Act.put, List.setIfInBounds_toArray, List.set_cons_zero, List.set_cons_succ]; done) | (simp only [Act.put, List.setIfInBounds_toArray, List.set_cons_zero, List.set_cons_succ]; with_reducible rfl) | exact rfl
        refine takeD (i := 11) (ac2 := ?aa11_14) (v := ?v11_14) (d := some 7) (ls2 := #[true, true, true, true, true, true, true, true, true, true, true, true]) rfl rfl (by kernel_rfl) (by kernel_rfl) (by kernel_rfl) (fun _ _ _ h => h) (Or.inl ⟨by kernel_rfl, ?hy11_14⟩) hS (by kernel_rfl) ?ha11_14 ?_
        case hy11_14 => intro w_ hS_; first | (go_simp; done) | (go_simp; with_reducible rfl)
        case ha11_14 => first | (simp only [Act.put, List.setIfInBounds_toArray, List.set_cons_zero, List.set_cons_succ]; done) | (simp only [Act.put, List.setIfInBounds_toArray, List.set_cons_zero, List.set_cons_succ]; with_reducible rfl) | exact rfl
        refine wpAnyH_done (by kernel_rfl) ?_ _
        go_wp2
        go_meet
        case rel =>
          have h4 := R_ok (ok2 := fun _ => True) (R_other HR4.out (fun k hk => put5_otherZ HZ.out (by have := HZL.out; omega) (.int .i64 p0) (.int .i64 p1) (.int .i64 p2) (.int .i64 p3) (.slice A6 p4.length c6))) (fun _ _ => trivial)
          have h6 := R_ok (ok2 := fun _ => True) (R_other HR6.out (fun k hk => put5_otherZ HZ.out (by have := HZL.out; omega) (.int .i64 p0) (.int .i64 p1) (.int .i64 p2) (.int .i64 p3) (.slice A6 p4.length c6))) (fun _ _ => trivial)
          exact ⟨⟨rfl, ⟨_, A6, c6, rfl, put5_heap HZ.out (.int .i64 p0) (.int .i64 p1) (.int .i64 p2) (.int .i64 p3) (.slice A6 p4.length c6), h4⟩, ⟨_, _, rfl, h6⟩⟩, hS⟩
    · have hgbl := Lib.hid hS.size
      go_simp
      refine hK.out _ _ ?_ (fun hS_ => ?_)
      · show Below WX.heap.size WX _
        exact hS.alloc hS.size _
      clear hK K hS
      have hS : Below WX.heap.size WX _ := hS_
      clear hS_
      have HGB := hgbl
      clear hgbl
      refine doD (i := 1) (ls2 := #[true, true, true, false, false, false, false, false, true, false, false, false]) (by kernel_rfl) rfl (by kernel_rfl) (by kernel_rfl) (fun K hK => ?_)
      go_simp
      go_wp2_with (first | (go_at_call 16; go_loud ((with_reducible refine (H16.out _).mono ?_); rintro e wq1 ⟨vz, rfl, hRz, hb1⟩; obtain ⟨Az, cz, rfl, hcz, _⟩ := Kd.R_reads hRz; have HNZ := Lib.hid (R_nil26 hRz); have hz1 := blk_below (blk_drew (heap_alloc_new _ _)) hb1; have HZ := Lib.hid hz1; clear hz1; clear hRz hcz)))
      refine hK.out _ _ ?_ (fun hS_ => ?_)
      · show Below WX.heap.size WX _
        exact hS.trans (hb1.mono hS.size)
      clear hK K hS
      have hS : Below WX.heap.size WX _ := hS_
      clear hS_
      clear hb1
      refine doD (i := 3) (ls2 := #[true, true, true, true, false, false, false, false, true, false, false, false]) (by kernel_rfl) rfl (by kernel_rfl) (by kernel_rfl) (fun K hK => ?_)
      go_simp
      go_wp2_with (first | (go_at_call 15; go_loud ((with_reducible refine (HRUN.out _ _ _ HNZ.out (Kd.C_below HL1.out hS)).mono ?_); have HSS := Lib.hid hS.size; rintro e wr ⟨v6, vo, rfl, hR6, hRo, hb6⟩; obtain ⟨A6, c6, rfl, hc6, _⟩ := Kd.R_reads hR6; obtain ⟨Ao, co, rfl, hco, _⟩ := Kd.R_reads hRo; have HR4 := Lib.hid (R_base hR6 HSS.out (Nat.le_refl _)); have HR6 := Lib.hid (R_base hRo HSS.out (Nat.le_refl _)); have HZL := Lib.hid (lt_of_block HZ.out); have hz6 := blk_below HZ.out hb6; have z0_ : wr.cell? ⟨_, 0, none⟩ = some (.int .i64 0) := (blk_cell hz6 0).trans rfl; have z1_ : wr.cell? ⟨_, 1, none⟩ = some (.int .i64 0) := (blk_cell hz6 1).trans rfl; have z2_ : wr.cell? ⟨_, 2, none⟩ = some (.int .i64 0) := (blk_cell hz6 2).trans rfl; have z3_ : wr.cell? ⟨_, 3, none⟩ = some (.int .i64 0) := (blk_cell hz6 3).trans rfl; have z4_ : wr.cell? ⟨_, 4, none⟩ = some (.slice none 0 0) := (blk_cell hz6 4).trans rfl; have y0_ : wr.frozen? ⟨_, 0, none⟩ = false := blk_frozen hz6 0; have y1_ : wr.frozen? ⟨_, 1, none⟩ = false := blk_frozen hz6 1; have y2_ : wr.frozen? ⟨_, 2, none⟩ = false := blk_frozen hz6 2; have y3_ : wr.frozen? ⟨_, 3, none⟩ = false := blk_frozen hz6 3; have y4_ : wr.frozen? ⟨_, 4, none⟩ = false := blk_frozen hz6 4; replace HZ := Lib.hid hz6; clear hz6; clear hR6 hRo)))
      refine hK.out _ _ ?_ (fun hS_ => ?_)
      · show Below WX.heap.size WX _
        exact hS.trans (hb6.mono hS.size)
      clear hK K hS
      have hS : Below WX.heap.size WX _ := hS_
      clear hS_
      clear hb6
      refine takeD (i := 4) (ac2 := ?aa4_15) (v := ?v4_15) (d := some 15) (ls2 := #[true, true, true, true, true, false, false, false, true, false, false, false]) rfl rfl (by kernel_rfl) (by kernel_rfl) (by kernel_rfl) (fun _ _ _ h => h) (Or.inl ⟨by kernel_rfl, ?hy4_15⟩) hS (by kernel_rfl) ?ha4_15 ?_
      case hy4_15 => intro w_ hS_; first | (go_simp; done) | (go_simp; with_reducible rfl)
      case ha4_15 => first | (simp only [Act.put, List.setIfInBounds_toArray, List.set_cons_zero, List.set_cons_succ]; done) | (simp only [Act.put, List.setIfInBounds_toArray, List.set_cons_zero, List.set_cons_succ]; with_reducible rfl) | exact rfl
      refine takeD (i := 5) (ac2 := ?aa5_16) (v := ?v5_16) (d := some 20) (ls2 := #[true, true, true, true, true, true, false, false, true, false, false, false]) rfl rfl (by kernel_rfl) (by kernel_rfl) (by kernel_rfl) (fun _ _ _ h => h) (Or.inl ⟨by kernel_rfl, ?hy5_16⟩) hS (by kernel_rfl) ?ha5_16 ?_
      case hy5_16 => intro w_ hS_; first | (go_simp; done) | (go_simp; with_reducible rfl)
      case ha5_16 => first | (simp only [Act.put, List.setIfInBounds_toArray, List.set_cons_zero, List.set_cons_succ]; done) | (simp only [Act.put, List.setIfInBounds_toArray, List.set_cons_zero, List.set_cons_succ]; with_reducible rfl) | exact rfl
      refine takeD (i := 6) (ac2 := ?aa6_17) (v := ?v6_17) (d := some 21) (ls2 := #[true, true, true, true, true, true, true, false, true, false, false, false]) rfl rfl (by kernel_rfl) (by kernel_rfl) (by kernel_rfl) (fun _ _ _ h => h) (Or.inl ⟨by kernel_rfl, ?hy6_17⟩) hS (by kernel_rfl) ?ha6_17 ?_
      case hy6_17 => intro w_ hS_; first | (go_simp; done) | (go_simp; with_reducible rfl)
      case ha6_17 => first | (simp only [Act.put, List.setIfInBounds_toArray, List.set_cons_zero, List.set_cons_succ]; done) | (simp only [Act.put, List.setIfInBounds_toArray, List.set_cons_zero, List.set_cons_succ]; with_reducible rfl) | exact rfl
      refine takeD (i := 7) (ac2 := ?aa7_18) (v := ?v7_18) (d := some 22) (ls2 := #[true, true, true, true, true, true, true, true, true, false, false, false]) rfl rfl (by kernel_rfl) (by kernel_rfl) (by kernel_rfl) (fun _ _ _ h => h) (Or.inl ⟨by kernel_rfl, ?hy7_18⟩) hS (by kernel_rfl) ?ha7_18 ?_
      case hy7_18 => intro w_ hS_; first | (go_simp; done) | (go_simp; with_reducible rfl)
      case ha7_18 => first | (simp only [Act.put, List.setIfInBounds_toArray, List.set_cons_zero, List.set_cons_succ]; done) | (simp only [Act.put, List.setIfInBounds_toArray, List.set_cons_zero, List.set_cons_succ]; with_reducible rfl) | exact rfl
      refine doD (i := 9) (ls2 := #[true, true, true, true, true, true, true, true, true, true, false, false]) (by kernel_rfl) rfl (by kernel_rfl) (by kernel_rfl) (fun K hK => ?_)
      go_simp
      refine hK.out _ _ ?_ (fun hS_ => ?_)
      · show Below WX.heap.size WX _
        exact put5_belowZ hS HZ.out (by have h0 := HGB.out; first | omega | (simp at h0; omega)) (.int .i64 p0) (.int .i64 p1) (.int .i64 p2) (.int .i64 p3) (.slice A6 p4.length c6)
      clear hK K hS
      have hS : Below WX.heap.size WX _ := hS_
      clear hS_
      refine takeD (i := 10) (ac2 := ?aa10_19) (v := ?v10_19) (d := some 6) (ls2 := #[true, true, true, true, true, true, true, true, true, true, true, false]) rfl rfl (by kernel_rfl) (by kernel_rfl) (by kernel_rfl) (fun _ _ _ h => h) (Or.inl ⟨by kernel_rfl, ?hy10_19⟩) hS (by kernel_rfl) ?ha10_19 ?_
      case hy10_19 => intro w_ hS_; first | (go_simp; done) | (go_simp; with_reducible rfl)
      case ha10_19 => first | (simp only [Act.put, List.setIfInBounds_toArray, List.set_cons_zero, List.set_cons_succ]; done) | (simp only [Act.put, List.setIfInBounds_toArray, List.set_cons_zero, List.set_cons_succ]; with_reducible rfl) | exact rfl
      refine takeD (i := 11) (ac2 := ?aa11_20) (v := ?v11_20) (d := some 7) (ls2 := #[true, true, true, true, true, true, true, true, true, true, true, true]) rfl rfl (by kernel_rfl) (by kernel_rfl) (by kernel_rfl) (fun _ _ _ h => h) (Or.inl ⟨by kernel_rfl, ?hy11_20⟩) hS (by kernel_rfl) ?ha11_20 ?_
      case hy11_20 => intro w_ hS_; first | (go_simp; done) | (go_simp; with_reducible rfl)
      case ha11_20 => first | (simp only [Act.put, List.setIfInBounds_toArray, List.set_cons_zero, List.set_cons_succ]; done) | (simp only [Act.put, List.setIfInBounds_toArray, List.set_cons_zero, List.set_cons_succ]; with_reducible rfl) | exact rfl
      refine wpAnyH_done (by kernel_rfl) ?_ _
      go_wp2
      go_meet
      case rel =>
        have h4 := R_ok (ok2 := fun _ => True) (R_other HR4.out (fun k hk => put5_otherZ HZ.out (by have := HZL.out; omega) (.int .i64 p0) (.int .i64 p1) (.int .i64 p2) (.int .i64 p3) (.slice A6 p4.length c6))) (fun _ _ => trivial)
        have h6 := R_ok (ok2 := fun _ => True) (R_other HR6.out (fun k hk => put5_otherZ HZ.out (by have := HZL.out; omega) (.int .i64 p0) (.int .i64 p1) (.int .i64 p2) (.int .i64 p3) (.slice A6 p4.length c6))) (fun _ _ => trivial)
        exact ⟨⟨rfl, ⟨_, A6, c6, rfl, put5_heap HZ.out (.int .i64 p0) (.int .i64 p1) (.int .i64 p2) (.int .i64 p3) (.slice A6 p4.length c6), h4⟩, ⟨_, _, rfl, h6⟩⟩, hS⟩
  case rest =>
    obtain ⟨⟨e0, ⟨gb, A6, c6, rfl, hbox, _⟩, ⟨Ao, co, rfl, _⟩⟩, hbw⟩ := hcut
    subst e0
    simp only at hbox
    have hLC := Kd.C_below HL1.out hbw
    have hbl := HBX.out.trans (hbw.mono HBX.out.size)
    have b0 : wc.cell? ⟨gb, 0, none⟩ = some (.int .i64 p0) := (blk_cell hbox 0).trans rfl
    have b1 : wc.cell? ⟨gb, 1, none⟩ = some (.int .i64 p1) := (blk_cell hbox 1).trans rfl
    have b2 : wc.cell? ⟨gb, 2, none⟩ = some (.int .i64 p2) := (blk_cell hbox 2).trans rfl
    have b3 : wc.cell? ⟨gb, 3, none⟩ = some (.int .i64 p3) := (blk_cell hbox 3).trans rfl
    have HBOX := Lib.hid hbox
    have HLC := Lib.hid hLC
    have HBL := Lib.hid hbl
    clear hbox hLC hbl hbw HRUN HGX HL1 HBX H16 HBB HGB0 HWB HSOME HLS
    by_cases he : pe = 0
    rotate_left
    · have de : (pe == 0) = false := beq_eq_false_iff_ne.2 he
      have h3 : p3 = 0 := HER.out he
      subst h3
      clear he HMK HER
      go_wp2_with (first | (go_at_call 20; go_loud ((with_reducible refine (awake_calls _).mono ?_); rintro e w9 ⟨rfl, hb9⟩)))
      go_ret
      exact ⟨rfl, HBL.out.trans (hb9.mono HBL.out.size)⟩
    subst he
    obtain ⟨h0, h2, h3, h4, h5, h6⟩ := HMK.out rfl
    obtain ⟨M, hM⟩ : ∃ M, mkL L (-1) 0 = M := ⟨_, rfl⟩
    rw [hM] at h0 h2 h5 h6
    subst h0 h2 h3
    have HM := Lib.hid hM
    have H4 := Lib.hid h4
    have H5 := Lib.hid h5
    have H6 := Lib.hid h6
    clear hM HMK HER h4 h5 h6
    go_wp2
    go_loopg [8, 9, 10] L.length (fun kq v8 v9 v10 wr => ∃ (i : Nat) (m b : Int), v8 = .int .i64 m ∧ v9 = .int .i64 b ∧ v10 = .int .i64 (i : Int) ∧ i ≤ L.length ∧ L.length - i ≤ kq ∧ mkL (L.drop i) m b = M ∧ Below wc.heap.size wc wr)
    case atStart => exact ⟨0, -1, 0, rfl, rfl, rfl, Nat.zero_le _, by omega, HM.out, Below.refl _ _⟩
    case round =>
      obtain ⟨i, m, b, rfl, rfl, rfl, hil, hik, ho, hbr⟩ := hrel
      clear HM
      by_cases hlt : i < L.length
      rotate_left
      · have d1 : decide ((i : Int) < (L.length : Int)) = false := decide_eq_false (by omega)
        rw [List.drop_eq_nil_of_le (by omega)] at ho
        change (m, b) = M at ho
        subst ho
        have c0 := below_cell hbr b0
        have c1 := below_cell hbr b1
        have c2 := below_cell hbr b2
        have c3 := below_cell hbr b3
        have q4 := H4.out
        have q5 := H5.out
        have q6 := H6.out
        simp only at q5 q6
        have hw : wrap64 ((L.length : Int) - b) = (L.length : Int) - b := by unfold wrap64; omega
        have g4 : decide ((0 : Int) ≤ p1) = true := decide_eq_true q4
        have g5 : decide (p1 ≤ (L.length : Int) - b) = true := decide_eq_true q5
        have HBR := Lib.hid hbr
        clear hbr b0 b1 b2 b3 q4 q5 q6
        go_wp2_with (first | (go_at_call 20; go_loud ((with_reducible refine (awake_calls _).mono ?_); rintro e w9 ⟨rfl, hb9⟩)))
        go_ret
        exact ⟨rfl, (HBL.out.trans (HBR.out.mono HBL.out.size)).trans (hb9.mono (Nat.le_trans HBL.out.size HBR.out.size))⟩
      have d1 : decide ((i : Int) < (L.length : Int)) = true := decide_eq_true (by omega)
      obtain ⟨ad, had, x0, x1, x2⟩ := at_T50 (Kd.C_below HLC.out hbr) (i : Int) (by omega) (by omega)
      cases had
      rw [Int.toNat_natCast] at x0 x1 x2
      have hrd : rd_T50 L (i : Int) = L[i] := by simp [rd_T50, List.getD, List.getElem?_eq_getElem hlt]
      rw [List.drop_eq_getElem_cons hlt, ← hrd] at ho
      obtain ⟨x, hx⟩ : ∃ x, rd_T50 L (i : Int) = x := ⟨_, rfl⟩
      rw [hx] at x0 x1 x2 ho
      clear hx hrd
      rw [mkL] at ho
      cases gk with
      | zero => omega
      | succ gk =>
      have hwi : IntKind.i64.wrap ((i : Int) + 1) = (i : Int) + 1 := by rw [IntKind.wrap_i64]; omega
      obtain ⟨kv, rv, hkv⟩ := value_ref x.f0 x.f1 x.f2
      have hval := fun w => headgateref16_Value.calls kv x.f0 x.f1 x.f2 rv (valP x.f2).2 w hkv
      clear hkv
      cases hv : (valP x.f2).2 with
      | false =>
        rw [hv] at hval
        rw [if_neg (by rw [hv]; decide)] at ho
        have HO := Lib.hid ho
        have HV := Lib.hid hval
        have HBR := Lib.hid hbr
        clear ho hval hv hbr
        go_wp2_with (first | (go_at_call 23; go_loud ((with_reducible refine (HV.out _).mono ?_); rintro e w9 ⟨rfl, hb9⟩)))
        go_roundg gk
        case measure => omega
        case rel => exact ⟨i + 1, m, _, rfl, rfl, by first | rfl | (congr 1), by omega, by omega, HO.out, HBR.out.trans (hb9.mono HBR.out.size)⟩
      | true =>
        rw [hv] at hval
        rw [if_pos hv] at ho
        obtain ⟨m2, hm2⟩ : ∃ q, mx m x.f1 = q := ⟨_, rfl⟩
        rw [hm2] at ho
        have em : (if m < x.f1 then x.f1 else m) = m2 := hm2
        have HO := Lib.hid ho
        have HV := Lib.hid hval
        have HBR := Lib.hid hbr
        clear ho hval hv hbr hm2
        go_wp2_with (first | (go_at_call 23; go_loud ((with_reducible refine (HV.out _).mono ?_); rintro e w9 ⟨rfl, hb9⟩; have x1b := below_cell hb9 x1)))
        go_roundg gk
        case measure => omega
        case rel => exact ⟨i + 1, m2, b, rfl, rfl, by first | rfl | (congr 1), by omega, by omega, HO.out, HBR.out.trans (hb9.mono HBR.out.size)⟩
end Go.Proofs.Ytgipepjpkmlmaaa.P
