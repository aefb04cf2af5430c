import Derived.Test.YtgipepjpkmlmaaaM9
import Derived.Test.YtgipepjpkmlmaaaE7
namespace Go.Proofs.Ytgipepjpkmlmaaa.P
open Go.RowKit Go.Proofs.YtgipepjpkmlmaaaW.PrintWords Go.Proofs.YtgipepjpkmlmaaaW.PrintLast Go.Proofs.YtgipepjpkmlmaaaW.PrintMore
set_option linter.unusedVariables false
set_option linter.unusedSimpArgs false

theorem cutR_size (r : S50) : (cutR r).f2.size ≤ 50 := by
  unfold cutR
  split
  · simp
    omega
  · omega
theorem someP_size (l : List S50) : ∀ r ∈ someP l, r.f2.size ≤ 50 := by
  intro r hr
  unfold someP at hr
  obtain ⟨x, _, rfl⟩ := List.mem_map.1 hr
  exact cutR_size x
theorem someP_length (l : List S50) : (someP l).length ≤ 150 := by
  unfold someP
  simp
  omega

/-- What a law holds behind its Run: the state's box, what is over, the error. -/
structure RunRes (w wc : World) (p : S28 × List S46 × Int) (v5 v6 v7 : Value) : Prop where
  e0 : v7 = .int .i64 p.2.2
  box : ∃ gb A c, v5 = .pointer (some ⟨gb, 0, none⟩) ∧ wc.heap[gb]? = some (.cells #[.int .i64 p.1.f0, .int .i64 p.1.f1, .int .i64 p.1.f2, .int .i64 p.1.f3, .slice A p.1.f4.length c] 28 (0, 0)) ∧ Kd.R k46 46 wc w.heap.size (fun _ => True) (.slice A p.1.f4.length c) p.1.f4
  row : ∃ A c, v6 = .slice A p.2.1.length c ∧ Kd.R k46 46 wc w.heap.size (fun _ => True) (.slice A p.2.1.length c) p.2.1

theorem run_err_l (g : S23) : ∀ (l : List S50) (s : S28) (all : List S46), (runL g l s all).2.2 ≠ 0 → (runL g l s all).2.1 = []
  | [], s, all, h => absurd rfl h
  | r :: rs, s, all, h => by
    rw [runL] at h ⊢
    by_cases h0 : (feedP g s r).2.2 = 0
    · rw [if_pos h0] at h ⊢; exact run_err_l g rs _ _ h
    · rw [if_neg h0]
theorem run_err_o (g : S23) (l : List S50) (s : S28) (he : (runP g s l).2.2 ≠ 0) : (runP g s l).2.1 = [] := by
  unfold runP at he ⊢
  split at he
  · rename_i c; rw [if_pos c]; exact run_err_l g l s [] he
  · rename_i c; rw [if_neg c]
theorem run_len (g : S23) : ∀ (l : List S50) (s : S28) (all : List S46), s.f4.length ≤ 1000 → (runL g l s all).2.1.length ≤ all.length + 1000 * l.length
  | [], s, all, h => by simp [runL]
  | r :: rs, s, all, h => by
    have hf := feedP_len (g := g) (s := s) (r := r) h
    rw [runL]
    split
    · have := run_len g rs (feedP g s r).1 (all ++ (feedP g s r).2.1) hf.1
      rw [List.length_append] at this
      rw [List.length_cons]
      omega
    · simp
theorem run_len_p (g : S23) (l : List S50) (s : S28) (h : s.f4.length ≤ 1000) : (runP g s l).2.1.length ≤ 1000 * l.length := by
  unfold runP
  split
  · have := run_len g l s [] h
    simpa using this
  · simp
theorem run_chk (g : S23) (l : List S50) (s : S28) (he : (runP g s l).2.2 = 0) : chkG g = true := by
  unfold runP at he
  split at he
  · rename_i c; exact checkP_grid c
  · cases he
set_option maxHeartbeats 16000000 in
set_option maxRecDepth 100000 in
theorem engineOnce_walk (g : S23) (A : Option Addr) (c : Nat) (l : List S50) (w : World) (hr : k50.C w A l.length l) (hc : l.length ≤ c) :
    Calls Try.prog 5 #[gridV g, .slice A l.length c] w fun e w' => e = .returned (.bool true) ∧ Below w.heap.size w w' := by
  have h16 := fun w => engine_Zero.calls (-1) 0 0 0 [] w rfl
  have H16 := Lib.hid h16
  obtain ⟨WB, hWB⟩ : ∃ W, W = w.alloc (.cells #[.int .i64 g.f0, .int .i64 g.f1, .int .i64 g.f2] 23) := ⟨_, rfl⟩
  have hgB : WB.heap[w.heap.size]? = some (.cells #[.int .i64 g.f0, .int .i64 g.f1, .int .i64 g.f2] 23 (0, 0)) := by rw [hWB]; exact heap_alloc_new _ _
  have hbB : Below w.heap.size w WB := by rw [hWB]; exact (Below.refl _ _).alloc (Nat.le_refl _) _
  have hsome := some_calls A c l WB (Kd.C_below hr hbB) hc
  obtain ⟨L, hL⟩ : ∃ L, someP l = L := ⟨_, rfl⟩
  have hLl := someP_length l
  have hLs := someP_size l
  rw [hL] at hsome hLl hLs
  have HSOME := Lib.hid hsome
  have HWB := Lib.hid hWB
  have HGB0 := Lib.hid hgB
  have HBB := Lib.hid hbB
  have HLS := Lib.hid hLs
  clear h16 hsome hWB hgB hbB hL hLs hr hc
  go_enter Try.func5, Try.ntmps5
  go_upto_region 2 with (first | (go_at_call 14; go_loud (rw [← HWB.out]; (with_reducible refine HSOME.out.mono ?_); rintro e WX ⟨v1, rfl, hR1, hb1⟩; obtain ⟨A1, c1, rfl, hc1, hL1⟩ := Kd.R_reads hR1; have HGX := Lib.hid (blk_below HGB0.out hb1); have HL1 := Lib.hid hL1; have HBX := Lib.hid (HBB.out.trans (hb1.mono HBB.out.size)); clear hR1 hL1 hb1)))
  have hrun : ∀ (W : World) (A : Option Addr) (c : Nat), (A = none → ([] : List S46) = [] ∧ c = 0) → k50.C W A1 L.length L → Calls Try.prog 15 #[.agg #[.int .i64 g.f0, .int .i64 g.f1, .int .i64 g.f2], .agg #[.int .i64 (-1), .int .i64 0, .int .i64 0, .int .i64 0, .slice A 0 c], .slice A1 L.length c1] W (FedP W (runP g awZ L)) :=
    fun W A c hn hB => run_calls g awZ L A A1 c c1 W (C_nil46 W A) (Nat.zero_le _) (by decide) hn hB hc1 (by omega) (fun r h => Nat.le_trans (HLS.out r h) (by omega))
  have hmarks := once_law g L (by omega)
  have herr := run_err_o g L awZ
  have hlen := run_len_p g L awZ (by decide)
  have hchk := run_chk g L awZ
  obtain ⟨P, hP⟩ : ∃ P, runP g awZ L = P := ⟨_, rfl⟩
  rw [hP] at hrun hmarks herr hlen hchk
  obtain ⟨⟨p0, p1, p2, p3, p4⟩, po, pe⟩ := P
  simp only at hmarks herr hlen hchk
  have HRUN := Lib.hid hrun
  have HMK := Lib.hid hmarks
  have HER := Lib.hid herr
  have HLEN := Lib.hid hlen
  have HCK := Lib.hid hchk
  clear hrun hmarks herr hlen hchk hP
  go_cut [5, 6, 7] from 13 to 20 (fun v5 v6 v7 wc => RunRes WX wc (⟨p0, p1, p2, p3, p4⟩, po, pe) v5 v6 v7 ∧ Below WX.heap.size WX wc)
  case first =>
    refine wp_region_held_drew (S := fun w_ => Below WX.heap.size WX w_) (by kernel_rfl) (below_drew (Below.refl _ _)) (fun hS_ => ?_)
    have hS : Below WX.heap.size WX _ := hS_
    clear hS_
    change wpAnyH _ _ _ _ _ 12 #[false, false, false, false, false, false, false, false, false, false, false, false] _ _
    refine takeD (i := 0) (ac2 := ?aa0_123) (v := ?v0_123) (d := some 14) (ls2 := #[true, false, false, false, false, false, false, false, false, false, false, false]) rfl rfl (by kernel_rfl) (by kernel_rfl) (by kernel_rfl) (fun _ _ _ h => h) (Or.inl ⟨by kernel_rfl, ?hy0_123⟩) hS (by kernel_rfl) ?ha0_123 ?_
    case hy0_123 => intro w_ hS_; (replace hS_ : Below WX.heap.size WX w_ := hS_); have q_ := blk_below HGX.out hS_; have q0_ : w_.cell? ⟨w.heap.size, 0, none⟩ = some (.int .i64 g.f0) := (blk_cell q_ 0).trans rfl; have q1_ : w_.cell? ⟨w.heap.size, 1, none⟩ = some (.int .i64 g.f1) := (blk_cell q_ 1).trans rfl; have q2_ : w_.cell? ⟨w.heap.size, 2, none⟩ = some (.int .i64 g.f2) := (blk_cell q_ 2).trans rfl; first | (go_simp; done) | (go_simp; with_reducible rfl)
    case ha0_123 => simp only [Act.put, List.setIfInBounds_toArray, List.set_cons_zero, List.set_cons_succ] <;> with_reducible rfl
    refine takeD (i := 2) (ac2 := ?aa2_124) (v := ?v2_124) (d := some 16) (ls2 := #[true, false, true, false, false, false, false, false, false, false, false, false]) rfl rfl (by kernel_rfl) (by kernel_rfl) (by kernel_rfl) (fun _ _ _ h => h) (Or.inl ⟨by kernel_rfl, ?hy2_124⟩) hS (by kernel_rfl) ?ha2_124 ?_
    case hy2_124 => intro w_ hS_; first | (go_simp; done) | (go_simp; with_reducible rfl)
    case ha2_124 => simp only [Act.put, List.setIfInBounds_toArray, List.set_cons_zero, List.set_cons_succ] <;> with_reducible rfl
    refine doD2 (i := 1) (j := 8) (l2 := #[true, true, true, false, false, false, false, false, false, false, false, false]) (l3 := #[true, false, true, false, false, false, false, false, true, false, false, false]) (by kernel_rfl) rfl rfl (by kernel_rfl) (by kernel_rfl) (by kernel_rfl) (by kernel_rfl) (fun K hK => ?_) (fun K hK => ?_)
    · go_simp
      go_wp2_with (first | (go_at_call 16; go_loud ((with_reducible refine (H16.out _).mono ?_); rintro e wq1 ⟨vz, rfl, hRz, hb1⟩; obtain ⟨Az, cz, rfl, hcz, _⟩ := Kd.R_reads hRz; have HNZ := Lib.hid (R_nil26 hRz); clear hRz hcz)))
      refine hK.out _ _ ?_ (fun hS_ => ?_)
      · show Below WX.heap.size WX _
        exact hS.trans (hb1.mono hS.size)
      clear hK K hS
      have hS : Below WX.heap.size WX _ := hS_
      clear hS_
      clear hb1
      refine doD2 (i := 3) (j := 8) (l2 := #[true, true, true, true, false, false, false, false, false, false, false, false]) (l3 := #[true, true, true, false, false, false, false, false, true, false, false, false]) (by kernel_rfl) rfl rfl (by kernel_rfl) (by kernel_rfl) (by kernel_rfl) (by kernel_rfl) (fun K hK => ?_) (fun K hK => ?_)
      · go_simp
        go_wp2_with (first | (go_at_call 15; go_loud ((with_reducible refine (HRUN.out _ _ _ HNZ.out (Kd.C_below HL1.out hS)).mono ?_); have HSS := Lib.hid hS.size; rintro e wr ⟨v6, vo, rfl, hR6, hRo, hb6⟩; obtain ⟨A6, c6, rfl, hc6, _⟩ := Kd.R_reads hR6; obtain ⟨Ao, co, rfl, hco, _⟩ := Kd.R_reads hRo; have HR4 := Lib.hid (R_base hR6 HSS.out (Nat.le_refl _)); have HR6 := Lib.hid (R_base hRo HSS.out (Nat.le_refl _)); clear hR6 hRo)))
        refine hK.out _ _ ?_ (fun hS_ => ?_)
        · show Below WX.heap.size WX _
          exact hS.trans (hb6.mono hS.size)
        clear hK K hS
        have hS : Below WX.heap.size WX _ := hS_
        clear hS_
        clear hb6
        refine takeD (i := 4) (ac2 := ?aa4_125) (v := ?v4_125) (d := some 13) (ls2 := #[true, true, true, true, true, false, false, false, false, false, false, false]) rfl rfl (by kernel_rfl) (by kernel_rfl) (by kernel_rfl) (fun _ _ _ h => h) (Or.inl ⟨by kernel_rfl, ?hy4_125⟩) hS (by kernel_rfl) ?ha4_125 ?_
        case hy4_125 => intro w_ hS_; first | (go_simp; done) | (go_simp; with_reducible rfl)
        case ha4_125 => simp only [Act.put, List.setIfInBounds_toArray, List.set_cons_zero, List.set_cons_succ] <;> with_reducible rfl
        refine takeD (i := 5) (ac2 := ?aa5_126) (v := ?v5_126) (d := some 18) (ls2 := #[true, true, true, true, true, true, false, false, false, false, false, false]) rfl rfl (by kernel_rfl) (by kernel_rfl) (by kernel_rfl) (fun _ _ _ h => h) (Or.inl ⟨by kernel_rfl, ?hy5_126⟩) hS (by kernel_rfl) ?ha5_126 ?_
        case hy5_126 => intro w_ hS_; first | (go_simp; done) | (go_simp; with_reducible rfl)
        case ha5_126 => simp only [Act.put, List.setIfInBounds_toArray, List.set_cons_zero, List.set_cons_succ] <;> with_reducible rfl
        refine takeD (i := 6) (ac2 := ?aa6_127) (v := ?v6_127) (d := some 19) (ls2 := #[true, true, true, true, true, true, true, false, false, false, false, false]) rfl rfl (by kernel_rfl) (by kernel_rfl) (by kernel_rfl) (fun _ _ _ h => h) (Or.inl ⟨by kernel_rfl, ?hy6_127⟩) hS (by kernel_rfl) ?ha6_127 ?_
        case hy6_127 => intro w_ hS_; first | (go_simp; done) | (go_simp; with_reducible rfl)
        case ha6_127 => simp only [Act.put, List.setIfInBounds_toArray, List.set_cons_zero, List.set_cons_succ] <;> with_reducible rfl
        refine takeD (i := 7) (ac2 := ?aa7_128) (v := ?v7_128) (d := some 20) (ls2 := #[true, true, true, true, true, true, true, true, false, false, false, false]) rfl rfl (by kernel_rfl) (by kernel_rfl) (by kernel_rfl) (fun _ _ _ h => h) (Or.inl ⟨by kernel_rfl, ?hy7_128⟩) hS (by kernel_rfl) ?ha7_128 ?_
        case hy7_128 => intro w_ hS_; first | (go_simp; done) | (go_simp; with_reducible rfl)
        case ha7_128 => simp only [Act.put, List.setIfInBounds_toArray, List.set_cons_zero, List.set_cons_succ] <;> with_reducible rfl
        have hSr := Lib.hid hS
        refine doD (i := 8) (ls2 := #[true, true, true, true, true, true, true, true, true, false, false, false]) (by kernel_rfl) rfl (by kernel_rfl) (by kernel_rfl) (fun K hK => ?_)
        go_simp
        refine hK.out _ _ ?_ (fun hS_ => ?_)
        · show Below WX.heap.size WX _
          exact hS.alloc hS.size _
        clear hK K hS
        have hS : Below WX.heap.size WX _ := hS_
        clear hS_
        refine doD (i := 9) (ls2 := #[true, true, true, true, true, true, true, true, true, true, false, false]) (by kernel_rfl) rfl (by kernel_rfl) (by kernel_rfl) (fun K hK => ?_)
        go_simp
        refine hK.out _ _ ?_ (fun hS_ => ?_)
        · show Below WX.heap.size WX _
          exact (hSr.out).alloc hSr.out.size _
        clear hK K hS
        have hS : Below WX.heap.size WX _ := hS_
        clear hS_
        refine takeD (i := 10) (ac2 := ?aa10_129) (v := ?v10_129) (d := some 6) (ls2 := #[true, true, true, true, true, true, true, true, true, true, true, false]) rfl rfl (by kernel_rfl) (by kernel_rfl) (by kernel_rfl) (fun _ _ _ h => h) (Or.inl ⟨by kernel_rfl, ?hy10_129⟩) hS (by kernel_rfl) ?ha10_129 ?_
        case hy10_129 => intro w_ hS_; first | (go_simp; done) | (go_simp; with_reducible rfl)
        case ha10_129 => simp only [Act.put, List.setIfInBounds_toArray, List.set_cons_zero, List.set_cons_succ] <;> with_reducible rfl
        refine takeD (i := 11) (ac2 := ?aa11_130) (v := ?v11_130) (d := some 7) (ls2 := #[true, true, true, true, true, true, true, true, true, true, true, true]) rfl rfl (by kernel_rfl) (by kernel_rfl) (by kernel_rfl) (fun _ _ _ h => h) (Or.inl ⟨by kernel_rfl, ?hy11_130⟩) hS (by kernel_rfl) ?ha11_130 ?_
        case hy11_130 => intro w_ hS_; first | (go_simp; done) | (go_simp; with_reducible rfl)
        case ha11_130 => simp only [Act.put, List.setIfInBounds_toArray, List.set_cons_zero, List.set_cons_succ] <;> with_reducible rfl
        refine wpAnyH_done (by kernel_rfl) ?_ _
        go_wp2
        go_meet
        case rel =>
          have h4 := R_ok (ok2 := fun _ => True) (Kd.R_below HR4.out ((Below.refl _ _).alloc (Nat.le_refl _) (.cells #[.int .i64 p0, .int .i64 p1, .int .i64 p2, .int .i64 p3, .slice A6 p4.length c6] 28))) (fun _ _ => trivial)
          have h6 := R_ok (ok2 := fun _ => True) (Kd.R_below HR6.out ((Below.refl _ _).alloc (Nat.le_refl _) (.cells #[.int .i64 p0, .int .i64 p1, .int .i64 p2, .int .i64 p3, .slice A6 p4.length c6] 28))) (fun _ _ => trivial)
          exact ⟨⟨rfl, ⟨_, A6, c6, rfl, heap_alloc_new _ _, h4⟩, ⟨_, _, rfl, h6⟩⟩, hS⟩
      · have hgbl := Lib.hid hS.size
        go_simp
        refine hK.out _ _ ?_ (fun hS_ => ?_)
        · show Below WX.heap.size WX _
          exact hS.alloc hS.size _
        clear hK K hS
        have hS : Below WX.heap.size WX _ := hS_
        clear hS_
        have HGB := hgbl
        clear hgbl
        refine doD (i := 3) (ls2 := #[true, true, true, true, false, false, false, false, true, false, false, false]) (by kernel_rfl) rfl (by kernel_rfl) (by kernel_rfl) (fun K hK => ?_)
        go_simp
        go_wp2_with (first | (go_at_call 15; go_loud ((with_reducible refine (HRUN.out _ _ _ HNZ.out (Kd.C_below HL1.out hS)).mono ?_); have hz0 := heap_alloc_new wq1 (.cells #[.int .i64 0, .int .i64 0, .int .i64 0, .int .i64 0, .slice none 0 0] 28); have HZ := Lib.hid hz0; clear hz0; have HSS := Lib.hid hS.size; rintro e wr ⟨v6, vo, rfl, hR6, hRo, hb6⟩; obtain ⟨A6, c6, rfl, hc6, _⟩ := Kd.R_reads hR6; obtain ⟨Ao, co, rfl, hco, _⟩ := Kd.R_reads hRo; have HR4 := Lib.hid (R_base hR6 HSS.out (Nat.le_refl _)); have HR6 := Lib.hid (R_base hRo HSS.out (Nat.le_refl _)); have HZL := Lib.hid (lt_of_block HZ.out); have hz6 := blk_below HZ.out hb6; have z0_ : wr.cell? ⟨_, 0, none⟩ = some (.int .i64 0) := (blk_cell hz6 0).trans rfl; have z1_ : wr.cell? ⟨_, 1, none⟩ = some (.int .i64 0) := (blk_cell hz6 1).trans rfl; have z2_ : wr.cell? ⟨_, 2, none⟩ = some (.int .i64 0) := (blk_cell hz6 2).trans rfl; have z3_ : wr.cell? ⟨_, 3, none⟩ = some (.int .i64 0) := (blk_cell hz6 3).trans rfl; have z4_ : wr.cell? ⟨_, 4, none⟩ = some (.slice none 0 0) := (blk_cell hz6 4).trans rfl; have y0_ : wr.frozen? ⟨_, 0, none⟩ = false := blk_frozen hz6 0; have y1_ : wr.frozen? ⟨_, 1, none⟩ = false := blk_frozen hz6 1; have y2_ : wr.frozen? ⟨_, 2, none⟩ = false := blk_frozen hz6 2; have y3_ : wr.frozen? ⟨_, 3, none⟩ = false := blk_frozen hz6 3; have y4_ : wr.frozen? ⟨_, 4, none⟩ = false := blk_frozen hz6 4; replace HZ := Lib.hid hz6; clear hz6; clear hR6 hRo)))
        refine hK.out _ _ ?_ (fun hS_ => ?_)
        · show Below WX.heap.size WX _
          exact hS.trans (hb6.mono hS.size)
        clear hK K hS
        have hS : Below WX.heap.size WX _ := hS_
        clear hS_
        clear hb6
        refine takeD (i := 4) (ac2 := ?aa4_131) (v := ?v4_131) (d := some 13) (ls2 := #[true, true, true, true, true, false, false, false, true, false, false, false]) rfl rfl (by kernel_rfl) (by kernel_rfl) (by kernel_rfl) (fun _ _ _ h => h) (Or.inl ⟨by kernel_rfl, ?hy4_131⟩) hS (by kernel_rfl) ?ha4_131 ?_
        case hy4_131 => intro w_ hS_; first | (go_simp; done) | (go_simp; with_reducible rfl)
        case ha4_131 => simp only [Act.put, List.setIfInBounds_toArray, List.set_cons_zero, List.set_cons_succ] <;> with_reducible rfl
        refine takeD (i := 5) (ac2 := ?aa5_132) (v := ?v5_132) (d := some 18) (ls2 := #[true, true, true, true, true, true, false, false, true, false, false, false]) rfl rfl (by kernel_rfl) (by kernel_rfl) (by kernel_rfl) (fun _ _ _ h => h) (Or.inl ⟨by kernel_rfl, ?hy5_132⟩) hS (by kernel_rfl) ?ha5_132 ?_
        case hy5_132 => intro w_ hS_; first | (go_simp; done) | (go_simp; with_reducible rfl)
        case ha5_132 => simp only [Act.put, List.setIfInBounds_toArray, List.set_cons_zero, List.set_cons_succ] <;> with_reducible rfl
        refine takeD (i := 6) (ac2 := ?aa6_133) (v := ?v6_133) (d := some 19) (ls2 := #[true, true, true, true, true, true, true, false, true, false, false, false]) rfl rfl (by kernel_rfl) (by kernel_rfl) (by kernel_rfl) (fun _ _ _ h => h) (Or.inl ⟨by kernel_rfl, ?hy6_133⟩) hS (by kernel_rfl) ?ha6_133 ?_
        case hy6_133 => intro w_ hS_; first | (go_simp; done) | (go_simp; with_reducible rfl)
        case ha6_133 => simp only [Act.put, List.setIfInBounds_toArray, List.set_cons_zero, List.set_cons_succ] <;> with_reducible rfl
        refine takeD (i := 7) (ac2 := ?aa7_134) (v := ?v7_134) (d := some 20) (ls2 := #[true, true, true, true, true, true, true, true, true, false, false, false]) rfl rfl (by kernel_rfl) (by kernel_rfl) (by kernel_rfl) (fun _ _ _ h => h) (Or.inl ⟨by kernel_rfl, ?hy7_134⟩) hS (by kernel_rfl) ?ha7_134 ?_
        case hy7_134 => intro w_ hS_; first | (go_simp; done) | (go_simp; with_reducible rfl)
        case ha7_134 => simp only [Act.put, List.setIfInBounds_toArray, List.set_cons_zero, List.set_cons_succ] <;> with_reducible rfl
        refine doD (i := 9) (ls2 := #[true, true, true, true, true, true, true, true, true, true, false, false]) (by kernel_rfl) rfl (by kernel_rfl) (by kernel_rfl) (fun K hK => ?_)
        go_simp
        refine hK.out _ _ ?_ (fun hS_ => ?_)
        · show Below WX.heap.size WX _
          exact put5_belowZ hS HZ.out (by have h0 := HGB.out; first | omega | (simp at h0; omega)) (.int .i64 p0) (.int .i64 p1) (.int .i64 p2) (.int .i64 p3) (.slice A6 p4.length c6)
        clear hK K hS
        have hS : Below WX.heap.size WX _ := hS_
        clear hS_
        refine takeD (i := 10) (ac2 := ?aa10_135) (v := ?v10_135) (d := some 6) (ls2 := #[true, true, true, true, true, true, true, true, true, true, true, false]) rfl rfl (by kernel_rfl) (by kernel_rfl) (by kernel_rfl) (fun _ _ _ h => h) (Or.inl ⟨by kernel_rfl, ?hy10_135⟩) hS (by kernel_rfl) ?ha10_135 ?_
        case hy10_135 => intro w_ hS_; first | (go_simp; done) | (go_simp; with_reducible rfl)
        case ha10_135 => simp only [Act.put, List.setIfInBounds_toArray, List.set_cons_zero, List.set_cons_succ] <;> with_reducible rfl
        refine takeD (i := 11) (ac2 := ?aa11_136) (v := ?v11_136) (d := some 7) (ls2 := #[true, true, true, true, true, true, true, true, true, true, true, true]) rfl rfl (by kernel_rfl) (by kernel_rfl) (by kernel_rfl) (fun _ _ _ h => h) (Or.inl ⟨by kernel_rfl, ?hy11_136⟩) hS (by kernel_rfl) ?ha11_136 ?_
        case hy11_136 => intro w_ hS_; first | (go_simp; done) | (go_simp; with_reducible rfl)
        case ha11_136 => simp only [Act.put, List.setIfInBounds_toArray, List.set_cons_zero, List.set_cons_succ] <;> with_reducible rfl
        refine wpAnyH_done (by kernel_rfl) ?_ _
        go_wp2
        go_meet
        case rel =>
          have h4 := R_ok (ok2 := fun _ => True) (R_other HR4.out (fun k hk => put5_otherZ HZ.out (by have := HZL.out; omega) (.int .i64 p0) (.int .i64 p1) (.int .i64 p2) (.int .i64 p3) (.slice A6 p4.length c6))) (fun _ _ => trivial)
          have h6 := R_ok (ok2 := fun _ => True) (R_other HR6.out (fun k hk => put5_otherZ HZ.out (by have := HZL.out; omega) (.int .i64 p0) (.int .i64 p1) (.int .i64 p2) (.int .i64 p3) (.slice A6 p4.length c6))) (fun _ _ => trivial)
          exact ⟨⟨rfl, ⟨_, A6, c6, rfl, put5_heap HZ.out (.int .i64 p0) (.int .i64 p1) (.int .i64 p2) (.int .i64 p3) (.slice A6 p4.length c6), h4⟩, ⟨_, _, rfl, h6⟩⟩, hS⟩
    · have hgbl := Lib.hid hS.size
      go_simp
      refine hK.out _ _ ?_ (fun hS_ => ?_)
      · show Below WX.heap.size WX _
        exact hS.alloc hS.size _
      clear hK K hS
      have hS : Below WX.heap.size WX _ := hS_
      clear hS_
      have HGB := hgbl
      clear hgbl
      refine doD (i := 1) (ls2 := #[true, true, true, false, false, false, false, false, true, false, false, false]) (by kernel_rfl) rfl (by kernel_rfl) (by kernel_rfl) (fun K hK => ?_)
      go_simp
      go_wp2_with (first | (go_at_call 16; go_loud ((with_reducible refine (H16.out _).mono ?_); rintro e wq1 ⟨vz, rfl, hRz, hb1⟩; obtain ⟨Az, cz, rfl, hcz, _⟩ := Kd.R_reads hRz; have HNZ := Lib.hid (R_nil26 hRz); have hz1 := blk_below (blk_drew (heap_alloc_new _ _)) hb1; have HZ := Lib.hid hz1; clear hz1; clear hRz hcz)))
      refine hK.out _ _ ?_ (fun hS_ => ?_)
      · show Below WX.heap.size WX _
        exact hS.trans (hb1.mono hS.size)
      clear hK K hS
      have hS : Below WX.heap.size WX _ := hS_
      clear hS_
      clear hb1
      refine doD (i := 3) (ls2 := #[true, true, true, true, false, false, false, false, true, false, false, false]) (by kernel_rfl) rfl (by kernel_rfl) (by kernel_rfl) (fun K hK => ?_)
      go_simp
      go_wp2_with (first | (go_at_call 15; go_loud ((with_reducible refine (HRUN.out _ _ _ HNZ.out (Kd.C_below HL1.out hS)).mono ?_); have HSS := Lib.hid hS.size; rintro e wr ⟨v6, vo, rfl, hR6, hRo, hb6⟩; obtain ⟨A6, c6, rfl, hc6, _⟩ := Kd.R_reads hR6; obtain ⟨Ao, co, rfl, hco, _⟩ := Kd.R_reads hRo; have HR4 := Lib.hid (R_base hR6 HSS.out (Nat.le_refl _)); have HR6 := Lib.hid (R_base hRo HSS.out (Nat.le_refl _)); have HZL := Lib.hid (lt_of_block HZ.out); have hz6 := blk_below HZ.out hb6; have z0_ : wr.cell? ⟨_, 0, none⟩ = some (.int .i64 0) := (blk_cell hz6 0).trans rfl; have z1_ : wr.cell? ⟨_, 1, none⟩ = some (.int .i64 0) := (blk_cell hz6 1).trans rfl; have z2_ : wr.cell? ⟨_, 2, none⟩ = some (.int .i64 0) := (blk_cell hz6 2).trans rfl; have z3_ : wr.cell? ⟨_, 3, none⟩ = some (.int .i64 0) := (blk_cell hz6 3).trans rfl; have z4_ : wr.cell? ⟨_, 4, none⟩ = some (.slice none 0 0) := (blk_cell hz6 4).trans rfl; have y0_ : wr.frozen? ⟨_, 0, none⟩ = false := blk_frozen hz6 0; have y1_ : wr.frozen? ⟨_, 1, none⟩ = false := blk_frozen hz6 1; have y2_ : wr.frozen? ⟨_, 2, none⟩ = false := blk_frozen hz6 2; have y3_ : wr.frozen? ⟨_, 3, none⟩ = false := blk_frozen hz6 3; have y4_ : wr.frozen? ⟨_, 4, none⟩ = false := blk_frozen hz6 4; replace HZ := Lib.hid hz6; clear hz6; clear hR6 hRo)))
      refine hK.out _ _ ?_ (fun hS_ => ?_)
      · show Below WX.heap.size WX _
        exact hS.trans (hb6.mono hS.size)
      clear hK K hS
      have hS : Below WX.heap.size WX _ := hS_
      clear hS_
      clear hb6
      refine takeD (i := 4) (ac2 := ?aa4_137) (v := ?v4_137) (d := some 13) (ls2 := #[true, true, true, true, true, false, false, false, true, false, false, false]) rfl rfl (by kernel_rfl) (by kernel_rfl) (by kernel_rfl) (fun _ _ _ h => h) (Or.inl ⟨by kernel_rfl, ?hy4_137⟩) hS (by kernel_rfl) ?ha4_137 ?_
      case hy4_137 => intro w_ hS_; first | (go_simp; done) | (go_simp; with_reducible rfl)
      case ha4_137 => simp only [Act.put, List.setIfInBounds_toArray, List.set_cons_zero, List.set_cons_succ] <;> with_reducible rfl
      refine takeD (i := 5) (ac2 := ?aa5_138) (v := ?v5_138) (d := some 18) (ls2 := #[true, true, true, true, true, true, false, false, true, false, false, false]) rfl rfl (by kernel_rfl) (by kernel_rfl) (by kernel_rfl) (fun _ _ _ h => h) (Or.inl ⟨by kernel_rfl, ?hy5_138⟩) hS (by kernel_rfl) ?ha5_138 ?_
      case hy5_138 => intro w_ hS_; first | (go_simp; done) | (go_simp; with_reducible rfl)
      case ha5_138 => simp only [Act.put, List.setIfInBounds_toArray, List.set_cons_zero, List.set_cons_succ] <;> with_reducible rfl
      refine takeD (i := 6) (ac2 := ?aa6_139) (v := ?v6_139) (d := some 19) (ls2 := #[true, true, true, true, true, true, true, false, true, false, false, false]) rfl rfl (by kernel_rfl) (by kernel_rfl) (by kernel_rfl) (fun _ _ _ h => h) (Or.inl ⟨by kernel_rfl, ?hy6_139⟩) hS (by kernel_rfl) ?ha6_139 ?_
      case hy6_139 => intro w_ hS_; first | (go_simp; done) | (go_simp; with_reducible rfl)
      case ha6_139 => simp only [Act.put, List.setIfInBounds_toArray, List.set_cons_zero, List.set_cons_succ] <;> with_reducible rfl
      refine takeD (i := 7) (ac2 := ?aa7_140) (v := ?v7_140) (d := some 20) (ls2 := #[true, true, true, true, true, true, true, true, true, false, false, false]) rfl rfl (by kernel_rfl) (by kernel_rfl) (by kernel_rfl) (fun _ _ _ h => h) (Or.inl ⟨by kernel_rfl, ?hy7_140⟩) hS (by kernel_rfl) ?ha7_140 ?_
      case hy7_140 => intro w_ hS_; first | (go_simp; done) | (go_simp; with_reducible rfl)
      case ha7_140 => simp only [Act.put, List.setIfInBounds_toArray, List.set_cons_zero, List.set_cons_succ] <;> with_reducible rfl
      refine doD (i := 9) (ls2 := #[true, true, true, true, true, true, true, true, true, true, false, false]) (by kernel_rfl) rfl (by kernel_rfl) (by kernel_rfl) (fun K hK => ?_)
      go_simp
      refine hK.out _ _ ?_ (fun hS_ => ?_)
      · show Below WX.heap.size WX _
        exact put5_belowZ hS HZ.out (by have h0 := HGB.out; first | omega | (simp at h0; omega)) (.int .i64 p0) (.int .i64 p1) (.int .i64 p2) (.int .i64 p3) (.slice A6 p4.length c6)
      clear hK K hS
      have hS : Below WX.heap.size WX _ := hS_
      clear hS_
      refine takeD (i := 10) (ac2 := ?aa10_141) (v := ?v10_141) (d := some 6) (ls2 := #[true, true, true, true, true, true, true, true, true, true, true, false]) rfl rfl (by kernel_rfl) (by kernel_rfl) (by kernel_rfl) (fun _ _ _ h => h) (Or.inl ⟨by kernel_rfl, ?hy10_141⟩) hS (by kernel_rfl) ?ha10_141 ?_
      case hy10_141 => intro w_ hS_; first | (go_simp; done) | (go_simp; with_reducible rfl)
      case ha10_141 => simp only [Act.put, List.setIfInBounds_toArray, List.set_cons_zero, List.set_cons_succ] <;> with_reducible rfl
      refine takeD (i := 11) (ac2 := ?aa11_142) (v := ?v11_142) (d := some 7) (ls2 := #[true, true, true, true, true, true, true, true, true, true, true, true]) rfl rfl (by kernel_rfl) (by kernel_rfl) (by kernel_rfl) (fun _ _ _ h => h) (Or.inl ⟨by kernel_rfl, ?hy11_142⟩) hS (by kernel_rfl) ?ha11_142 ?_
      case hy11_142 => intro w_ hS_; first | (go_simp; done) | (go_simp; with_reducible rfl)
      case ha11_142 => simp only [Act.put, List.setIfInBounds_toArray, List.set_cons_zero, List.set_cons_succ] <;> with_reducible rfl
      refine wpAnyH_done (by kernel_rfl) ?_ _
      go_wp2
      go_meet
      case rel =>
        have h4 := R_ok (ok2 := fun _ => True) (R_other HR4.out (fun k hk => put5_otherZ HZ.out (by have := HZL.out; omega) (.int .i64 p0) (.int .i64 p1) (.int .i64 p2) (.int .i64 p3) (.slice A6 p4.length c6))) (fun _ _ => trivial)
        have h6 := R_ok (ok2 := fun _ => True) (R_other HR6.out (fun k hk => put5_otherZ HZ.out (by have := HZL.out; omega) (.int .i64 p0) (.int .i64 p1) (.int .i64 p2) (.int .i64 p3) (.slice A6 p4.length c6))) (fun _ _ => trivial)
        exact ⟨⟨rfl, ⟨_, A6, c6, rfl, put5_heap HZ.out (.int .i64 p0) (.int .i64 p1) (.int .i64 p2) (.int .i64 p3) (.slice A6 p4.length c6), h4⟩, ⟨_, _, rfl, h6⟩⟩, hS⟩
  case rest =>
    obtain ⟨⟨e0, ⟨gb, A6, c6, rfl, hbox, hR4⟩, ⟨Ao, co, rfl, hRo⟩⟩, hbw⟩ := hcut
    subst e0
    simp only at hbox hR4 hRo
    have hbl := HBX.out.trans (hbw.mono HBX.out.size)
    have g8 := blk_below HGX.out hbw
    have b0 : wc.cell? ⟨gb, 0, none⟩ = some (.int .i64 p0) := (blk_cell hbox 0).trans rfl
    have b4 : wc.cell? ⟨gb, 4, none⟩ = some (.slice A6 p4.length c6) := (blk_cell hbox 4).trans rfl
    have q0 : wc.cell? ⟨w.heap.size, 0, none⟩ = some (.int .i64 g.f0) := (blk_cell g8 0).trans rfl
    have q1 : wc.cell? ⟨w.heap.size, 1, none⟩ = some (.int .i64 g.f1) := (blk_cell g8 1).trans rfl
    have q2 : wc.cell? ⟨w.heap.size, 2, none⟩ = some (.int .i64 g.f2) := (blk_cell g8 2).trans rfl
    have HPO := Lib.hid (Kd.R_reads' hRo).2.2
    have HP4 := Lib.hid (Kd.R_reads' hR4).2.2
    have HBL := Lib.hid hbl
    have hlen := HLEN.out
    clear hbox hbl hbw HRUN HGX HL1 HBX H16 HBB HGB0 HWB HSOME HLS g8 hR4 hRo
    by_cases he : pe = 0
    rotate_left
    · have de : (pe == 0) = false := beq_eq_false_iff_ne.2 he
      have h3 : po = [] := HER.out he
      subst h3
      clear he HMK HER
      go_wp2_with (first | (go_at_call 20; go_loud ((with_reducible refine (awake_calls _).mono ?_); rintro e w9 ⟨rfl, hb9⟩)))
      go_ret
      exact ⟨rfl, HBL.out.trans (hb9.mono HBL.out.size)⟩
    subst he
    have hon := HMK.out rfl
    have hcg := HCK.out rfl
    have hp4 : p4.length ≤ 64 := hon.inv.len
    have HON := Lib.hid hon
    have HCG := Lib.hid hcg
    obtain ⟨LA, hLA⟩ : ∃ LA, po ++ p4 = LA := ⟨_, rfl⟩
    have hLAl : LA.length ≤ 200000 := by rw [← hLA, List.length_append]; omega
    have hC : ∀ i, i < LA.length → closedP g (rd_T46 LA (i : Int)).f1 p0 = decide ((i : Int) < (po.length : Int)) := by
      intro i hi
      have e : rd_T46 LA (i : Int) = LA[i] := rd_get LA i hi
      rw [e]
      subst hLA
      by_cases h : i < po.length
      · rw [List.getElem_append_left h, decide_eq_true (by omega)]
        exact hon.cl _ (List.getElem_mem h)
      · rw [List.getElem_append_right (by omega), decide_eq_false (by omega)]
        exact hon.inv.op _ (List.getElem_mem _)
    have hN : ∀ k i, k < i → i < LA.length → keyC (rd_T46 LA (k : Int)) ≠ keyC (rd_T46 LA (i : Int)) := by
      intro k i hk hi
      have h := hon.ne
      simp only [hLA] at h
      rw [List.pairwise_iff_getElem] at h
      rw [rd_get LA i hi, rd_get LA k (by omega)]
      exact h k i (by omega) hi hk
    have HC := Lib.hid hC
    have HNK := Lib.hid hN
    have HLA := Lib.hid hLA
    clear hon hcg HMK HER HCK hC hN hLA
    go_wp2_with (first | ((with_reducible refine gate_builtin (b := .append) (xs := #[.tmp 29, .tmp 30]) rfl ?_); (try (refine gate_guard (by rfl) ?_; dsimp only)); at_builtin; refine Kd.R_append_rows k46 (w0 := wc) wc.heap.size rfl (.tmp 29) (.tmp 30) 26 46 (.agg #[(.int .i64 0), (.int .i64 0), (.int .i64 0), (.int .i64 0), (.int .i64 0), (.int .i64 0), (.int .i64 0), (.int .i64 0), (.int .i64 0), (.int .i64 0), (.int .i64 0), (.int .i64 0)]) 96 rfl Try.underlying26 info46 rfl (by decide) (by omega) (.slice none 0 0) [] po _ _ _ (fun _ => True) (fun _ => False) rfl rfl (Kd.R_nil _ _ _ _ _) HPO.out (fun _ _ h => by obtain rfl := k46_open h; exact k46_mkM _ _ _ _) (fun _ h => h.elim) (fun _ _ => trivial) (Below.refl _ _) (Nat.le_refl _) ?aL ?_; (case aL => first | omega | (simp; omega)); intro va wa hRa hba hga hata; rw [List.nil_append] at hRa; obtain ⟨Aa, ca, rfl, hca, _⟩ := Kd.R_reads hRa; have b4a := below_cell hba b4; have HRA := Lib.hid hRa; have HBA := Lib.hid hba; clear hRa hba hga hata) | ((with_reducible refine gate_builtin (b := .append) (xs := #[.tmp 32, .tmp 34]) rfl ?_); (try (refine gate_guard (by rfl) ?_; dsimp only)); at_builtin; refine Kd.R_append_rows k46 (w0 := wc) wc.heap.size rfl (.tmp 32) (.tmp 34) 26 46 (.agg #[(.int .i64 0), (.int .i64 0), (.int .i64 0), (.int .i64 0), (.int .i64 0), (.int .i64 0), (.int .i64 0), (.int .i64 0), (.int .i64 0), (.int .i64 0), (.int .i64 0), (.int .i64 0)]) 96 rfl Try.underlying26 info46 rfl (by decide) (by omega) (.slice Aa po.length ca) po p4 _ _ _ (fun _ => True) (fun _ => False) rfl rfl HRA.out (Kd.C_below HP4.out HBA.out) (fun _ _ h => by obtain rfl := k46_open h; exact k46_mkM _ _ _ _) (fun _ h => h.elim) (fun _ _ => trivial) HBA.out HBA.out.size ?aL ?_; (case aL => first | omega | (simp; omega)); intro vb wb hRb hbb hgb hatb; rw [HLA.out] at hRb; obtain ⟨Ab, cb, rfl, hcb, hCb⟩ := Kd.R_reads hRb; have HCB := Lib.hid hCb; have HBB2 := Lib.hid hbb; clear hRb hbb hgb hatb hCb))
    have c0 := below_cell HBB2.out b0
    have k0 := below_cell HBB2.out q0
    have k1 := below_cell HBB2.out q1
    have k2 := below_cell HBB2.out q2
    have HBW := Lib.hid (HBL.out.trans (HBB2.out.mono HBL.out.size))
    have H0 := Lib.hid c0
    have HK0 := Lib.hid k0
    have HK1 := Lib.hid k1
    have HK2 := Lib.hid k2
    clear b0 b4 q0 q1 q2 c0 k0 k1 k2 HBL HBB2 HPO HP4 HRA HBA b4a
    go_loopg [9] LA.length (fun kq v9 WX => ∃ (i : Nat), v9 = .int .i64 (i : Int) ∧ i ≤ LA.length ∧ LA.length - i ≤ kq ∧ Below wb.heap.size wb WX)
    case atStart => exact ⟨0, rfl, Nat.zero_le _, by omega, Below.refl _ _⟩
    case round =>
      obtain ⟨i, rfl, hil, hik, hbr⟩ := hrel
      by_cases hlt : i < LA.length
      rotate_left
      · have d1 : decide ((i : Int) < (LA.length : Int)) = false := decide_eq_false (by omega)
        have HBR := Lib.hid hbr
        clear hbr
        go_wp2_with (first | (go_at_call 20; go_loud ((with_reducible refine (awake_calls _).mono ?_); rintro e w9 ⟨rfl, hb9⟩)))
        go_ret
        exact ⟨rfl, (HBW.out.trans (HBR.out.mono HBW.out.size)).trans (hb9.mono (Nat.le_trans HBW.out.size HBR.out.size))⟩
      have d1 : decide ((i : Int) < (LA.length : Int)) = true := decide_eq_true (by omega)
      have hci := HC.out i hlt
      obtain ⟨ad, had, x0, x1, _⟩ := at_T46 (Kd.C_below HCB.out hbr) (i : Int) (by omega) (by omega)
      cases had
      rw [Int.toNat_natCast] at x0 x1
      obtain ⟨x, hx⟩ : ∃ x, rd_T46 LA (i : Int) = x := ⟨_, rfl⟩
      rw [hx] at x0 x1 hci
      have HX1 := Lib.hid x1
      have HG0 := Lib.hid (below_cell hbr HK0.out)
      have HG1 := Lib.hid (below_cell hbr HK1.out)
      have HG2 := Lib.hid (below_cell hbr HK2.out)
      have HP0 := Lib.hid (below_cell hbr H0.out)
      have hmk : -1 ≤ p0 ∧ p0 ≤ 1099511627776 := by
        have := HON.out.inv.mark
        simp only at this
        omega
      have hcl := fun w => closedRef_calls g HCG.out x.f1 p0 hmk.1 hmk.2 w
      obtain ⟨bb, hbb⟩ : ∃ b, decide ((i : Int) < (po.length : Int)) = b := ⟨_, rfl⟩
      rw [hci, hbb] at hcl
      have hbn : decide (i < po.length) = bb := by rw [← hbb]; exact decide_eq_decide.2 (by omega)
      have HCL := Lib.hid hcl
      have HBR := Lib.hid hbr
      have HX := Lib.hid hx
      cases gk with
      | zero => omega
      | succ og =>
      clear hci hcl hbr hx x0
      cases bb with
      | false =>
        have hlp : ¬ i < po.length := of_decide_eq_false hbn
        go_wp2
        clear x1
        obtain ⟨WX, hWX⟩ : ∃ W, W = wr := ⟨_, rfl⟩
        subst hWX
        refine wp_region_held_drew (S := fun w_ => Below WX.heap.size WX w_) (by kernel_rfl) (below_drew (Below.refl _ _)) (fun hS_ => ?_)
        have hS : Below WX.heap.size WX _ := hS_
        clear hS_
        change wpAnyH _ _ _ _ _ 14 #[false, false, false, false, false, false, false, false, false, false, false, false, false, false] _ _
        refine takeD (i := 0) (ac2 := ?aa0_1) (v := ?v0_1) (d := some 42) (ls2 := #[true, false, false, false, false, false, false, false, false, false, false, false, false, false]) rfl rfl (by kernel_rfl) (by kernel_rfl) (by kernel_rfl) (fun _ _ _ h => h) (Or.inl ⟨by kernel_rfl, ?hy0_1⟩) hS (by kernel_rfl) ?ha0_1 ?_
        case hy0_1 => intro w_ hS_; (replace hS_ : Below WX.heap.size WX w_ := hS_); have a0_ := below_cell hS_ HG0.out; have a1_ := below_cell hS_ HG1.out; have a2_ := below_cell hS_ HG2.out; first | (go_simp; done) | (go_simp; with_reducible rfl)
        case ha0_1 => simp only [Act.put, List.setIfInBounds_toArray, List.set_cons_zero, List.set_cons_succ] <;> with_reducible rfl
        refine takeD (i := 1) (ac2 := ?aa1_2) (v := ?v1_2) (d := some 43) (ls2 := #[true, true, false, false, false, false, false, false, false, false, false, false, false, false]) rfl rfl (by kernel_rfl) (by kernel_rfl) (by kernel_rfl) (fun _ _ _ h => h) (Or.inl ⟨by kernel_rfl, ?hy1_2⟩) hS (by kernel_rfl) ?ha1_2 ?_
        case hy1_2 => intro w_ hS_; first | (go_simp; done) | (go_simp; with_reducible rfl)
        case ha1_2 => simp only [Act.put, List.setIfInBounds_toArray, List.set_cons_zero, List.set_cons_succ] <;> with_reducible rfl
        refine takeD (i := 2) (ac2 := ?aa2_3) (v := ?v2_3) (d := some 44) (ls2 := #[true, true, true, false, false, false, false, false, false, false, false, false, false, false]) rfl rfl (by kernel_rfl) (by kernel_rfl) (by kernel_rfl) (fun _ _ _ h => h) (Or.inl ⟨by kernel_rfl, ?hy2_3⟩) hS (by kernel_rfl) ?ha2_3 ?_
        case hy2_3 => intro w_ hS_; first | (go_simp; done) | (go_simp; with_reducible rfl)
        case ha2_3 => simp only [Act.put, List.setIfInBounds_toArray, List.set_cons_zero, List.set_cons_succ] <;> with_reducible rfl
        refine takeD (i := 3) (ac2 := ?aa3_4) (v := ?v3_4) (d := some 45) (ls2 := #[true, true, true, true, false, false, false, false, false, false, false, false, false, false]) rfl rfl (by kernel_rfl) (by kernel_rfl) (by kernel_rfl) (fun _ _ _ h => h) (Or.inl ⟨by kernel_rfl, ?hy3_4⟩) hS (by kernel_rfl) ?ha3_4 ?_
        case hy3_4 => intro w_ hS_; first | (go_simp; done) | (go_simp; with_reducible rfl)
        case ha3_4 => simp only [Act.put, List.setIfInBounds_toArray, List.set_cons_zero, List.set_cons_succ] <;> with_reducible rfl
        refine takeD (i := 4) (ac2 := ?aa4_5) (v := ?v4_5) (d := some 46) (ls2 := #[true, true, true, true, true, false, false, false, false, false, false, false, false, false]) rfl rfl (by kernel_rfl) (by kernel_rfl) (by kernel_rfl) (fun _ _ _ h => h) (Or.inl ⟨by kernel_rfl, ?hy4_5⟩) hS (by kernel_rfl) ?ha4_5 ?_
        case hy4_5 => intro w_ hS_; first | (go_simp; done) | (go_simp; with_reducible rfl)
        case ha4_5 => simp only [Act.put, List.setIfInBounds_toArray, List.set_cons_zero, List.set_cons_succ] <;> with_reducible rfl
        refine takeD (i := 5) (ac2 := ?aa5_6) (v := ?v5_6) (d := some 47) (ls2 := #[true, true, true, true, true, true, false, false, false, false, false, false, false, false]) rfl rfl (by kernel_rfl) (by kernel_rfl) (by kernel_rfl) (fun _ _ _ h => h) (Or.inl ⟨by kernel_rfl, ?hy5_6⟩) hS (by kernel_rfl) ?ha5_6 ?_
        case hy5_6 => intro w_ hS_; (replace hS_ : Below WX.heap.size WX w_ := hS_); have a3_ := below_cell hS_ HX1.out; first | (go_simp; done) | (go_simp; with_reducible rfl)
        case ha5_6 => simp only [Act.put, List.setIfInBounds_toArray, List.set_cons_zero, List.set_cons_succ] <;> with_reducible rfl
        refine takeD (i := 6) (ac2 := ?aa6_7) (v := ?v6_7) (d := some 48) (ls2 := #[true, true, true, true, true, true, true, false, false, false, false, false, false, false]) rfl rfl (by kernel_rfl) (by kernel_rfl) (by kernel_rfl) (fun _ _ _ h => h) (Or.inl ⟨by kernel_rfl, ?hy6_7⟩) hS (by kernel_rfl) ?ha6_7 ?_
        case hy6_7 => intro w_ hS_; first | (go_simp; done) | (go_simp; with_reducible rfl)
        case ha6_7 => simp only [Act.put, List.setIfInBounds_toArray, List.set_cons_zero, List.set_cons_succ] <;> with_reducible rfl
        refine takeD (i := 7) (ac2 := ?aa7_8) (v := ?v7_8) (d := some 49) (ls2 := #[true, true, true, true, true, true, true, true, false, false, false, false, false, false]) rfl rfl (by kernel_rfl) (by kernel_rfl) (by kernel_rfl) (fun _ _ _ h => h) (Or.inl ⟨by kernel_rfl, ?hy7_8⟩) hS (by kernel_rfl) ?ha7_8 ?_
        case hy7_8 => intro w_ hS_; (replace hS_ : Below WX.heap.size WX w_ := hS_); have a4_ := below_cell hS_ HP0.out; first | (go_simp; done) | (go_simp; with_reducible rfl)
        case ha7_8 => simp only [Act.put, List.setIfInBounds_toArray, List.set_cons_zero, List.set_cons_succ] <;> with_reducible rfl
        refine takeD (i := 9) (ac2 := ?aa9_9) (v := ?v9_9) (d := some 51) (ls2 := #[true, true, true, true, true, true, true, true, false, true, false, false, false, false]) rfl rfl (by kernel_rfl) (by kernel_rfl) (by kernel_rfl) (fun _ _ _ h => h) (Or.inl ⟨by kernel_rfl, ?hy9_9⟩) hS (by kernel_rfl) ?ha9_9 ?_
        case hy9_9 => intro w_ hS_; first | (go_simp; done) | (go_simp; with_reducible rfl)
        case ha9_9 => simp only [Act.put, List.setIfInBounds_toArray, List.set_cons_zero, List.set_cons_succ] <;> with_reducible rfl
        refine takeD (i := 10) (ac2 := ?aa10_10) (v := ?v10_10) (d := some 52) (ls2 := #[true, true, true, true, true, true, true, true, false, true, true, false, false, false]) rfl rfl (by kernel_rfl) (by kernel_rfl) (by kernel_rfl) (fun _ _ _ h => h) (Or.inl ⟨by kernel_rfl, ?hy10_10⟩) hS (by kernel_rfl) ?ha10_10 ?_
        case hy10_10 => intro w_ hS_; first | (go_simp; done) | (go_simp; with_reducible rfl)
        case ha10_10 => simp only [Act.put, List.setIfInBounds_toArray, List.set_cons_zero, List.set_cons_succ] <;> with_reducible rfl
        refine takeD (i := 11) (ac2 := ?aa11_11) (v := ?v11_11) (d := some 53) (ls2 := #[true, true, true, true, true, true, true, true, false, true, true, true, false, false]) rfl rfl (by kernel_rfl) (by kernel_rfl) (by kernel_rfl) (fun _ _ _ h => h) (Or.inl ⟨by kernel_rfl, ?hy11_11⟩) hS (by kernel_rfl) ?ha11_11 ?_
        case hy11_11 => intro w_ hS_; first | (go_simp; done) | (go_simp; with_reducible rfl)
        case ha11_11 => simp only [Act.put, List.setIfInBounds_toArray, List.set_cons_zero, List.set_cons_succ] <;> with_reducible rfl
        refine takeD (i := 12) (ac2 := ?aa12_12) (v := ?v12_12) (d := some 54) (ls2 := #[true, true, true, true, true, true, true, true, false, true, true, true, true, false]) rfl rfl (by kernel_rfl) (by kernel_rfl) (by kernel_rfl) (fun _ _ _ h => h) (Or.inl ⟨by kernel_rfl, ?hy12_12⟩) hS (by kernel_rfl) ?ha12_12 ?_
        case hy12_12 => intro w_ hS_; first | (go_simp; done) | (go_simp; with_reducible rfl)
        case ha12_12 => simp only [Act.put, List.setIfInBounds_toArray, List.set_cons_zero, List.set_cons_succ] <;> with_reducible rfl
        refine doD (i := 8) (ls2 := #[true, true, true, true, true, true, true, true, true, true, true, true, true, false]) (by kernel_rfl) rfl (by kernel_rfl) (by kernel_rfl) (fun K hK => ?_)
        go_simp
        go_wp2_with (first | (go_at_call 22; go_loud ((with_reducible refine (HCL.out _).mono ?_); rintro e w3 ⟨rfl, hb3⟩)))
        refine hK.out _ _ ?_ (fun hS_ => ?_)
        · show Below WX.heap.size WX _
          exact hS.trans (hb3.mono hS.size)
        clear hK K hS hb3
        have hS : Below WX.heap.size WX _ := hS_
        clear hS_
        refine takeD (i := 13) (ac2 := ?aa13_13) (v := ?v13_13) (d := some 55) (ls2 := #[true, true, true, true, true, true, true, true, true, true, true, true, true, true]) rfl rfl (by kernel_rfl) (by kernel_rfl) (by kernel_rfl) (fun _ _ _ h => h) (Or.inl ⟨by kernel_rfl, ?hy13_13⟩) hS (by kernel_rfl) ?ha13_13 ?_
        case hy13_13 => intro w_ hS_; first | (go_simp; done) | (go_simp; with_reducible rfl)
        case ha13_13 => simp only [Act.put, List.setIfInBounds_toArray, List.set_cons_zero, List.set_cons_succ] <;> with_reducible rfl
        refine wpAnyH_done (by kernel_rfl) ?_ _
        try go_simp
        have HS := Lib.hid (HBR.out.trans (hS.mono HBR.out.size))
        clear hS HP0 HG0 HG1 HG2 HX1 HCL HBR
        go_wp2
        go_loopg [10] i (fun kq v10 wq => ∃ (k : Nat), v10 = .int .i64 (k : Int) ∧ k ≤ i ∧ i - k ≤ kq ∧ Below wb.heap.size wb wq)
        case atStart => exact ⟨0, rfl, Nat.zero_le _, by omega, HS.out⟩
        case round =>
          obtain ⟨k, rfl, hki, hkk, hbq⟩ := hrel
          by_cases hlk : k < i
          rotate_left
          · have d3 : decide ((k : Int) < (i : Int)) = false := decide_eq_false (by omega)
            have hwi : IntKind.i64.wrap ((i : Int) + 1) = (i : Int) + 1 := by rw [IntKind.wrap_i64]; omega
            have HQ := Lib.hid hbq
            clear hbq
            go_wp2
            go_roundg og
            case measure => omega
            case rel => exact ⟨i + 1, by first | rfl | (congr 1), by omega, by omega, HQ.out⟩
          have d3 : decide ((k : Int) < (i : Int)) = true := decide_eq_true (by omega)
          have hwk : IntKind.i64.wrap ((k : Int) + 1) = (k : Int) + 1 := by rw [IntKind.wrap_i64]; omega
          have hne := HNK.out k i hlk hlt
          rw [HX.out] at hne
          obtain ⟨ad1, had1, x0, x1, _⟩ := at_T46 (Kd.C_below HCB.out hbq) (i : Int) (by omega) (by omega)
          obtain ⟨ad2, had2, y0, y1, _⟩ := at_T46 (Kd.C_below HCB.out hbq) (k : Int) (by omega) (by omega)
          cases had1
          cases had2
          rw [Int.toNat_natCast, HX.out] at x0 x1
          rw [Int.toNat_natCast] at y0 y1
          obtain ⟨y, hy⟩ : ∃ y, rd_T46 LA (k : Int) = y := ⟨_, rfl⟩
          rw [hy] at y0 y1 hne
          have hbi : (0 : Int) ≤ (i : Int) ∧ (i : Int) < (LA.length : Int) := by omega
          have hbk : (0 : Int) ≤ (k : Int) ∧ (k : Int) < (LA.length : Int) := by omega
          have HX0 := Lib.hid x0
          have HX1 := Lib.hid x1
          have HY0 := Lib.hid y0
          have HY1 := Lib.hid y1
          obtain ⟨b9, d9⟩ : ∃ b, (y.f1 == x.f1) = b := ⟨_, rfl⟩
          have d8 : b9 = true → (y.f0 == x.f0) = false := by
            intro e
            rw [e] at d9
            refine beq_eq_false_iff_ne.2 (fun e2 => hne ?_)
            unfold keyC
            rw [e2, beq_iff_eq.1 d9]
          have HQ := Lib.hid hbq
          have H8 := Lib.hid d8
          cases gk with
          | zero => omega
          | succ gk =>
          clear hne x0 x1 y0 y1 hy d8 hbq
          go_wp2
          obtain ⟨WX, hWX⟩ : ∃ W, W = wr := ⟨_, rfl⟩
          subst hWX
          cases b9 with
          | false =>
            refine wp_region_held_drew (S := fun w_ => Below WX.heap.size WX w_) (by kernel_rfl) (below_drew (Below.refl _ _)) (fun hS_ => ?_)
            have hS : Below WX.heap.size WX _ := hS_
            clear hS_
            change wpAnyH _ _ _ _ _ 24 #[false, false, false, false, false, false, false, false, false, false, false, false, false, false, false, false, false, false, false, false, false, false, false, false] _ _
            refine takeD (i := 0) (ac2 := ?aa0_14) (v := ?v0_14) (d := some 61) (ls2 := #[true, false, false, false, false, false, false, false, false, false, false, false, false, false, false, false, false, false, false, false, false, false, false, false]) rfl rfl (by kernel_rfl) (by kernel_rfl) (by kernel_rfl) (fun _ _ _ h => h) (Or.inl ⟨by kernel_rfl, ?hy0_14⟩) hS (by kernel_rfl) ?ha0_14 ?_
            case hy0_14 => intro w_ hS_; first | (go_simp; done) | (go_simp; with_reducible rfl)
            case ha0_14 => simp only [Act.put, List.setIfInBounds_toArray, List.set_cons_zero, List.set_cons_succ] <;> with_reducible rfl
            refine takeD (i := 1) (ac2 := ?aa1_15) (v := ?v1_15) (d := some 62) (ls2 := #[true, true, false, false, false, false, false, false, false, false, false, false, false, false, false, false, false, false, false, false, false, false, false, false]) rfl rfl (by kernel_rfl) (by kernel_rfl) (by kernel_rfl) (fun _ _ _ h => h) (Or.inl ⟨by kernel_rfl, ?hy1_15⟩) hS (by kernel_rfl) ?ha1_15 ?_
            case hy1_15 => intro w_ hS_; first | (go_simp; done) | (go_simp; with_reducible rfl)
            case ha1_15 => simp only [Act.put, List.setIfInBounds_toArray, List.set_cons_zero, List.set_cons_succ] <;> with_reducible rfl
            refine takeD (i := 2) (ac2 := ?aa2_16) (v := ?v2_16) (d := some 63) (ls2 := #[true, true, true, false, false, false, false, false, false, false, false, false, false, false, false, false, false, false, false, false, false, false, false, false]) rfl rfl (by kernel_rfl) (by kernel_rfl) (by kernel_rfl) (fun _ _ _ h => h) (Or.inl ⟨by kernel_rfl, ?hy2_16⟩) hS (by kernel_rfl) ?ha2_16 ?_
            case hy2_16 => intro w_ hS_; first | (go_simp; done) | (go_simp; with_reducible rfl)
            case ha2_16 => simp only [Act.put, List.setIfInBounds_toArray, List.set_cons_zero, List.set_cons_succ] <;> with_reducible rfl
            refine takeD (i := 3) (ac2 := ?aa3_17) (v := ?v3_17) (d := some 64) (ls2 := #[true, true, true, true, false, false, false, false, false, false, false, false, false, false, false, false, false, false, false, false, false, false, false, false]) rfl rfl (by kernel_rfl) (by kernel_rfl) (by kernel_rfl) (fun _ _ _ h => h) (Or.inl ⟨by kernel_rfl, ?hy3_17⟩) hS (by kernel_rfl) ?ha3_17 ?_
            case hy3_17 => intro w_ hS_; first | (go_simp; done) | (go_simp; with_reducible rfl)
            case ha3_17 => simp only [Act.put, List.setIfInBounds_toArray, List.set_cons_zero, List.set_cons_succ] <;> with_reducible rfl
            refine takeD (i := 4) (ac2 := ?aa4_18) (v := ?v4_18) (d := some 65) (ls2 := #[true, true, true, true, true, false, false, false, false, false, false, false, false, false, false, false, false, false, false, false, false, false, false, false]) rfl rfl (by kernel_rfl) (by kernel_rfl) (by kernel_rfl) (fun _ _ _ h => h) (Or.inl ⟨by kernel_rfl, ?hy4_18⟩) hS (by kernel_rfl) ?ha4_18 ?_
            case hy4_18 => intro w_ hS_; (replace hS_ : Below WX.heap.size WX w_ := hS_); have a0_ := below_cell hS_ HY1.out; first | (go_simp; done) | (go_simp; with_reducible rfl)
            case ha4_18 => simp only [Act.put, List.setIfInBounds_toArray, List.set_cons_zero, List.set_cons_succ] <;> with_reducible rfl
            refine takeD (i := 5) (ac2 := ?aa5_19) (v := ?v5_19) (d := some 66) (ls2 := #[true, true, true, true, true, true, false, false, false, false, false, false, false, false, false, false, false, false, false, false, false, false, false, false]) rfl rfl (by kernel_rfl) (by kernel_rfl) (by kernel_rfl) (fun _ _ _ h => h) (Or.inl ⟨by kernel_rfl, ?hy5_19⟩) hS (by kernel_rfl) ?ha5_19 ?_
            case hy5_19 => intro w_ hS_; first | (go_simp; done) | (go_simp; with_reducible rfl)
            case ha5_19 => simp only [Act.put, List.setIfInBounds_toArray, List.set_cons_zero, List.set_cons_succ] <;> with_reducible rfl
            refine takeD (i := 6) (ac2 := ?aa6_20) (v := ?v6_20) (d := some 67) (ls2 := #[true, true, true, true, true, true, true, false, false, false, false, false, false, false, false, false, false, false, false, false, false, false, false, false]) rfl rfl (by kernel_rfl) (by kernel_rfl) (by kernel_rfl) (fun _ _ _ h => h) (Or.inl ⟨by kernel_rfl, ?hy6_20⟩) hS (by kernel_rfl) ?ha6_20 ?_
            case hy6_20 => intro w_ hS_; first | (go_simp; done) | (go_simp; with_reducible rfl)
            case ha6_20 => simp only [Act.put, List.setIfInBounds_toArray, List.set_cons_zero, List.set_cons_succ] <;> with_reducible rfl
            refine takeD (i := 7) (ac2 := ?aa7_21) (v := ?v7_21) (d := some 68) (ls2 := #[true, true, true, true, true, true, true, true, false, false, false, false, false, false, false, false, false, false, false, false, false, false, false, false]) rfl rfl (by kernel_rfl) (by kernel_rfl) (by kernel_rfl) (fun _ _ _ h => h) (Or.inl ⟨by kernel_rfl, ?hy7_21⟩) hS (by kernel_rfl) ?ha7_21 ?_
            case hy7_21 => intro w_ hS_; first | (go_simp; done) | (go_simp; with_reducible rfl)
            case ha7_21 => simp only [Act.put, List.setIfInBounds_toArray, List.set_cons_zero, List.set_cons_succ] <;> with_reducible rfl
            refine takeD (i := 8) (ac2 := ?aa8_22) (v := ?v8_22) (d := some 69) (ls2 := #[true, true, true, true, true, true, true, true, true, false, false, false, false, false, false, false, false, false, false, false, false, false, false, false]) rfl rfl (by kernel_rfl) (by kernel_rfl) (by kernel_rfl) (fun _ _ _ h => h) (Or.inl ⟨by kernel_rfl, ?hy8_22⟩) hS (by kernel_rfl) ?ha8_22 ?_
            case hy8_22 => intro w_ hS_; first | (go_simp; done) | (go_simp; with_reducible rfl)
            case ha8_22 => simp only [Act.put, List.setIfInBounds_toArray, List.set_cons_zero, List.set_cons_succ] <;> with_reducible rfl
            refine takeD (i := 9) (ac2 := ?aa9_23) (v := ?v9_23) (d := some 70) (ls2 := #[true, true, true, true, true, true, true, true, true, true, false, false, false, false, false, false, false, false, false, false, false, false, false, false]) rfl rfl (by kernel_rfl) (by kernel_rfl) (by kernel_rfl) (fun _ _ _ h => h) (Or.inl ⟨by kernel_rfl, ?hy9_23⟩) hS (by kernel_rfl) ?ha9_23 ?_
            case hy9_23 => intro w_ hS_; (replace hS_ : Below WX.heap.size WX w_ := hS_); have a0_ := below_cell hS_ HX1.out; first | (go_simp; done) | (go_simp; with_reducible rfl)
            case ha9_23 => simp only [Act.put, List.setIfInBounds_toArray, List.set_cons_zero, List.set_cons_succ] <;> with_reducible rfl
            refine takeD (i := 10) (ac2 := ?aa10_24) (v := ?v10_24) (d := some 71) (ls2 := #[true, true, true, true, true, true, true, true, true, true, true, false, false, false, false, false, false, false, false, false, false, false, false, false]) rfl rfl (by kernel_rfl) (by kernel_rfl) (by kernel_rfl) (fun _ _ _ h => h) (Or.inl ⟨by kernel_rfl, ?hy10_24⟩) hS (by kernel_rfl) ?ha10_24 ?_
            case hy10_24 => intro w_ hS_; first | (go_simp; done) | (go_simp; with_reducible rfl)
            case ha10_24 => simp only [Act.put, List.setIfInBounds_toArray, List.set_cons_zero, List.set_cons_succ] <;> with_reducible rfl
            refine takeD (i := 11) (ac2 := ?aa11_25) (v := ?v11_25) (d := some 72) (ls2 := #[true, true, true, true, true, true, true, true, true, true, true, true, false, false, false, false, false, false, false, false, false, false, false, false]) rfl rfl (by kernel_rfl) (by kernel_rfl) (by kernel_rfl) (fun _ _ _ h => h) (Or.inl ⟨by kernel_rfl, ?hy11_25⟩) hS (by kernel_rfl) ?ha11_25 ?_
            case hy11_25 => intro w_ hS_; first | (go_simp; done) | (go_simp; with_reducible rfl)
            case ha11_25 => simp only [Act.put, List.setIfInBounds_toArray, List.set_cons_zero, List.set_cons_succ] <;> with_reducible rfl
            refine takeD (i := 12) (ac2 := ?aa12_26) (v := undef) (d := some 73) (ls2 := #[true, true, true, true, true, true, true, true, true, true, true, true, true, false, false, false, false, false, false, false, false, false, false, false]) rfl rfl (by kernel_rfl) (by kernel_rfl) (by kernel_rfl) (fun _ _ _ h => h) (Or.inr ⟨by kernel_rfl, rfl⟩) hS (by kernel_rfl) ?ha12_26 ?_
            case ha12_26 => simp only [Act.put, List.setIfInBounds_toArray, List.set_cons_zero, List.set_cons_succ] <;> with_reducible rfl
            refine takeD (i := 13) (ac2 := ?aa13_27) (v := undef) (d := some 74) (ls2 := #[true, true, true, true, true, true, true, true, true, true, true, true, true, true, false, false, false, false, false, false, false, false, false, false]) rfl rfl (by kernel_rfl) (by kernel_rfl) (by kernel_rfl) (fun _ _ _ h => h) (Or.inr ⟨by kernel_rfl, rfl⟩) hS (by kernel_rfl) ?ha13_27 ?_
            case ha13_27 => simp only [Act.put, List.setIfInBounds_toArray, List.set_cons_zero, List.set_cons_succ] <;> with_reducible rfl
            refine takeD (i := 14) (ac2 := ?aa14_28) (v := undef) (d := some 75) (ls2 := #[true, true, true, true, true, true, true, true, true, true, true, true, true, true, true, false, false, false, false, false, false, false, false, false]) rfl rfl (by kernel_rfl) (by kernel_rfl) (by kernel_rfl) (fun _ _ _ h => h) (Or.inr ⟨by kernel_rfl, rfl⟩) hS (by kernel_rfl) ?ha14_28 ?_
            case ha14_28 => simp only [Act.put, List.setIfInBounds_toArray, List.set_cons_zero, List.set_cons_succ] <;> with_reducible rfl
            refine takeD (i := 15) (ac2 := ?aa15_29) (v := undef) (d := some 76) (ls2 := #[true, true, true, true, true, true, true, true, true, true, true, true, true, true, true, true, false, false, false, false, false, false, false, false]) rfl rfl (by kernel_rfl) (by kernel_rfl) (by kernel_rfl) (fun _ _ _ h => h) (Or.inr ⟨by kernel_rfl, rfl⟩) hS (by kernel_rfl) ?ha15_29 ?_
            case ha15_29 => simp only [Act.put, List.setIfInBounds_toArray, List.set_cons_zero, List.set_cons_succ] <;> with_reducible rfl
            refine takeD (i := 16) (ac2 := ?aa16_30) (v := undef) (d := some 77) (ls2 := #[true, true, true, true, true, true, true, true, true, true, true, true, true, true, true, true, true, false, false, false, false, false, false, false]) rfl rfl (by kernel_rfl) (by kernel_rfl) (by kernel_rfl) (fun _ _ _ h => h) (Or.inr ⟨by kernel_rfl, rfl⟩) hS (by kernel_rfl) ?ha16_30 ?_
            case ha16_30 => simp only [Act.put, List.setIfInBounds_toArray, List.set_cons_zero, List.set_cons_succ] <;> with_reducible rfl
            refine takeD (i := 17) (ac2 := ?aa17_31) (v := undef) (d := some 78) (ls2 := #[true, true, true, true, true, true, true, true, true, true, true, true, true, true, true, true, true, true, false, false, false, false, false, false]) rfl rfl (by kernel_rfl) (by kernel_rfl) (by kernel_rfl) (fun _ _ _ h => h) (Or.inr ⟨by kernel_rfl, rfl⟩) hS (by kernel_rfl) ?ha17_31 ?_
            case ha17_31 => simp only [Act.put, List.setIfInBounds_toArray, List.set_cons_zero, List.set_cons_succ] <;> with_reducible rfl
            refine takeD (i := 18) (ac2 := ?aa18_32) (v := undef) (d := some 79) (ls2 := #[true, true, true, true, true, true, true, true, true, true, true, true, true, true, true, true, true, true, true, false, false, false, false, false]) rfl rfl (by kernel_rfl) (by kernel_rfl) (by kernel_rfl) (fun _ _ _ h => h) (Or.inr ⟨by kernel_rfl, rfl⟩) hS (by kernel_rfl) ?ha18_32 ?_
            case ha18_32 => simp only [Act.put, List.setIfInBounds_toArray, List.set_cons_zero, List.set_cons_succ] <;> with_reducible rfl
            refine takeD (i := 19) (ac2 := ?aa19_33) (v := undef) (d := some 80) (ls2 := #[true, true, true, true, true, true, true, true, true, true, true, true, true, true, true, true, true, true, true, true, false, false, false, false]) rfl rfl (by kernel_rfl) (by kernel_rfl) (by kernel_rfl) (fun _ _ _ h => h) (Or.inr ⟨by kernel_rfl, rfl⟩) hS (by kernel_rfl) ?ha19_33 ?_
            case ha19_33 => simp only [Act.put, List.setIfInBounds_toArray, List.set_cons_zero, List.set_cons_succ] <;> with_reducible rfl
            refine takeD (i := 20) (ac2 := ?aa20_34) (v := undef) (d := some 81) (ls2 := #[true, true, true, true, true, true, true, true, true, true, true, true, true, true, true, true, true, true, true, true, true, false, false, false]) rfl rfl (by kernel_rfl) (by kernel_rfl) (by kernel_rfl) (fun _ _ _ h => h) (Or.inr ⟨by kernel_rfl, rfl⟩) hS (by kernel_rfl) ?ha20_34 ?_
            case ha20_34 => simp only [Act.put, List.setIfInBounds_toArray, List.set_cons_zero, List.set_cons_succ] <;> with_reducible rfl
            refine takeD (i := 21) (ac2 := ?aa21_35) (v := undef) (d := some 82) (ls2 := #[true, true, true, true, true, true, true, true, true, true, true, true, true, true, true, true, true, true, true, true, true, true, false, false]) rfl rfl (by kernel_rfl) (by kernel_rfl) (by kernel_rfl) (fun _ _ _ h => h) (Or.inr ⟨by kernel_rfl, rfl⟩) hS (by kernel_rfl) ?ha21_35 ?_
            case ha21_35 => simp only [Act.put, List.setIfInBounds_toArray, List.set_cons_zero, List.set_cons_succ] <;> with_reducible rfl
            refine takeD (i := 22) (ac2 := ?aa22_36) (v := undef) (d := some 83) (ls2 := #[true, true, true, true, true, true, true, true, true, true, true, true, true, true, true, true, true, true, true, true, true, true, true, false]) rfl rfl (by kernel_rfl) (by kernel_rfl) (by kernel_rfl) (fun _ _ _ h => h) (Or.inr ⟨by kernel_rfl, rfl⟩) hS (by kernel_rfl) ?ha22_36 ?_
            case ha22_36 => simp only [Act.put, List.setIfInBounds_toArray, List.set_cons_zero, List.set_cons_succ] <;> with_reducible rfl
            refine takeD (i := 23) (ac2 := ?aa23_37) (v := ?v23_37) (d := some 84) (ls2 := #[true, true, true, true, true, true, true, true, true, true, true, true, true, true, true, true, true, true, true, true, true, true, true, true]) rfl rfl (by kernel_rfl) (by kernel_rfl) (by kernel_rfl) (fun _ _ _ h => h) (Or.inl ⟨by kernel_rfl, ?hy23_37⟩) hS (by kernel_rfl) ?ha23_37 ?_
            case hy23_37 => intro w_ hS_; first | (go_simp; done) | (go_simp; with_reducible rfl)
            case ha23_37 => simp only [Act.put, List.setIfInBounds_toArray, List.set_cons_zero, List.set_cons_succ] <;> with_reducible rfl
            refine wpAnyH_done (by kernel_rfl) ?_ _
            try go_simp
            go_wp2
            go_roundg gk
            case measure => omega
            case rel => exact ⟨k + 1, by first | rfl | (congr 1), by omega, by omega, HQ.out.trans (hS.mono HQ.out.size)⟩
          | true =>
            have d8 := H8.out rfl
            refine wp_region_held_drew (S := fun w_ => Below WX.heap.size WX w_) (by kernel_rfl) (below_drew (Below.refl _ _)) (fun hS_ => ?_)
            have hS : Below WX.heap.size WX _ := hS_
            clear hS_
            change wpAnyH _ _ _ _ _ 24 #[false, false, false, false, false, false, false, false, false, false, false, false, false, false, false, false, false, false, false, false, false, false, false, false] _ _
            refine takeD (i := 0) (ac2 := ?aa0_38) (v := ?v0_38) (d := some 61) (ls2 := #[true, false, false, false, false, false, false, false, false, false, false, false, false, false, false, false, false, false, false, false, false, false, false, false]) rfl rfl (by kernel_rfl) (by kernel_rfl) (by kernel_rfl) (fun _ _ _ h => h) (Or.inl ⟨by kernel_rfl, ?hy0_38⟩) hS (by kernel_rfl) ?ha0_38 ?_
            case hy0_38 => intro w_ hS_; first | (go_simp; done) | (go_simp; with_reducible rfl)
            case ha0_38 => simp only [Act.put, List.setIfInBounds_toArray, List.set_cons_zero, List.set_cons_succ] <;> with_reducible rfl
            refine takeD (i := 1) (ac2 := ?aa1_39) (v := ?v1_39) (d := some 62) (ls2 := #[true, true, false, false, false, false, false, false, false, false, false, false, false, false, false, false, false, false, false, false, false, false, false, false]) rfl rfl (by kernel_rfl) (by kernel_rfl) (by kernel_rfl) (fun _ _ _ h => h) (Or.inl ⟨by kernel_rfl, ?hy1_39⟩) hS (by kernel_rfl) ?ha1_39 ?_
            case hy1_39 => intro w_ hS_; first | (go_simp; done) | (go_simp; with_reducible rfl)
            case ha1_39 => simp only [Act.put, List.setIfInBounds_toArray, List.set_cons_zero, List.set_cons_succ] <;> with_reducible rfl
            refine takeD (i := 2) (ac2 := ?aa2_40) (v := ?v2_40) (d := some 63) (ls2 := #[true, true, true, false, false, false, false, false, false, false, false, false, false, false, false, false, false, false, false, false, false, false, false, false]) rfl rfl (by kernel_rfl) (by kernel_rfl) (by kernel_rfl) (fun _ _ _ h => h) (Or.inl ⟨by kernel_rfl, ?hy2_40⟩) hS (by kernel_rfl) ?ha2_40 ?_
            case hy2_40 => intro w_ hS_; first | (go_simp; done) | (go_simp; with_reducible rfl)
            case ha2_40 => simp only [Act.put, List.setIfInBounds_toArray, List.set_cons_zero, List.set_cons_succ] <;> with_reducible rfl
            refine takeD (i := 3) (ac2 := ?aa3_41) (v := ?v3_41) (d := some 64) (ls2 := #[true, true, true, true, false, false, false, false, false, false, false, false, false, false, false, false, false, false, false, false, false, false, false, false]) rfl rfl (by kernel_rfl) (by kernel_rfl) (by kernel_rfl) (fun _ _ _ h => h) (Or.inl ⟨by kernel_rfl, ?hy3_41⟩) hS (by kernel_rfl) ?ha3_41 ?_
            case hy3_41 => intro w_ hS_; first | (go_simp; done) | (go_simp; with_reducible rfl)
            case ha3_41 => simp only [Act.put, List.setIfInBounds_toArray, List.set_cons_zero, List.set_cons_succ] <;> with_reducible rfl
            refine takeD (i := 4) (ac2 := ?aa4_42) (v := ?v4_42) (d := some 65) (ls2 := #[true, true, true, true, true, false, false, false, false, false, false, false, false, false, false, false, false, false, false, false, false, false, false, false]) rfl rfl (by kernel_rfl) (by kernel_rfl) (by kernel_rfl) (fun _ _ _ h => h) (Or.inl ⟨by kernel_rfl, ?hy4_42⟩) hS (by kernel_rfl) ?ha4_42 ?_
            case hy4_42 => intro w_ hS_; (replace hS_ : Below WX.heap.size WX w_ := hS_); have a0_ := below_cell hS_ HY1.out; first | (go_simp; done) | (go_simp; with_reducible rfl)
            case ha4_42 => simp only [Act.put, List.setIfInBounds_toArray, List.set_cons_zero, List.set_cons_succ] <;> with_reducible rfl
            refine takeD (i := 5) (ac2 := ?aa5_43) (v := ?v5_43) (d := some 66) (ls2 := #[true, true, true, true, true, true, false, false, false, false, false, false, false, false, false, false, false, false, false, false, false, false, false, false]) rfl rfl (by kernel_rfl) (by kernel_rfl) (by kernel_rfl) (fun _ _ _ h => h) (Or.inl ⟨by kernel_rfl, ?hy5_43⟩) hS (by kernel_rfl) ?ha5_43 ?_
            case hy5_43 => intro w_ hS_; first | (go_simp; done) | (go_simp; with_reducible rfl)
            case ha5_43 => simp only [Act.put, List.setIfInBounds_toArray, List.set_cons_zero, List.set_cons_succ] <;> with_reducible rfl
            refine takeD (i := 6) (ac2 := ?aa6_44) (v := ?v6_44) (d := some 67) (ls2 := #[true, true, true, true, true, true, true, false, false, false, false, false, false, false, false, false, false, false, false, false, false, false, false, false]) rfl rfl (by kernel_rfl) (by kernel_rfl) (by kernel_rfl) (fun _ _ _ h => h) (Or.inl ⟨by kernel_rfl, ?hy6_44⟩) hS (by kernel_rfl) ?ha6_44 ?_
            case hy6_44 => intro w_ hS_; first | (go_simp; done) | (go_simp; with_reducible rfl)
            case ha6_44 => simp only [Act.put, List.setIfInBounds_toArray, List.set_cons_zero, List.set_cons_succ] <;> with_reducible rfl
            refine takeD (i := 7) (ac2 := ?aa7_45) (v := ?v7_45) (d := some 68) (ls2 := #[true, true, true, true, true, true, true, true, false, false, false, false, false, false, false, false, false, false, false, false, false, false, false, false]) rfl rfl (by kernel_rfl) (by kernel_rfl) (by kernel_rfl) (fun _ _ _ h => h) (Or.inl ⟨by kernel_rfl, ?hy7_45⟩) hS (by kernel_rfl) ?ha7_45 ?_
            case hy7_45 => intro w_ hS_; first | (go_simp; done) | (go_simp; with_reducible rfl)
            case ha7_45 => simp only [Act.put, List.setIfInBounds_toArray, List.set_cons_zero, List.set_cons_succ] <;> with_reducible rfl
            refine takeD (i := 8) (ac2 := ?aa8_46) (v := ?v8_46) (d := some 69) (ls2 := #[true, true, true, true, true, true, true, true, true, false, false, false, false, false, false, false, false, false, false, false, false, false, false, false]) rfl rfl (by kernel_rfl) (by kernel_rfl) (by kernel_rfl) (fun _ _ _ h => h) (Or.inl ⟨by kernel_rfl, ?hy8_46⟩) hS (by kernel_rfl) ?ha8_46 ?_
            case hy8_46 => intro w_ hS_; first | (go_simp; done) | (go_simp; with_reducible rfl)
            case ha8_46 => simp only [Act.put, List.setIfInBounds_toArray, List.set_cons_zero, List.set_cons_succ] <;> with_reducible rfl
            refine takeD (i := 9) (ac2 := ?aa9_47) (v := ?v9_47) (d := some 70) (ls2 := #[true, true, true, true, true, true, true, true, true, true, false, false, false, false, false, false, false, false, false, false, false, false, false, false]) rfl rfl (by kernel_rfl) (by kernel_rfl) (by kernel_rfl) (fun _ _ _ h => h) (Or.inl ⟨by kernel_rfl, ?hy9_47⟩) hS (by kernel_rfl) ?ha9_47 ?_
            case hy9_47 => intro w_ hS_; (replace hS_ : Below WX.heap.size WX w_ := hS_); have a0_ := below_cell hS_ HX1.out; first | (go_simp; done) | (go_simp; with_reducible rfl)
            case ha9_47 => simp only [Act.put, List.setIfInBounds_toArray, List.set_cons_zero, List.set_cons_succ] <;> with_reducible rfl
            refine takeD (i := 10) (ac2 := ?aa10_48) (v := ?v10_48) (d := some 71) (ls2 := #[true, true, true, true, true, true, true, true, true, true, true, false, false, false, false, false, false, false, false, false, false, false, false, false]) rfl rfl (by kernel_rfl) (by kernel_rfl) (by kernel_rfl) (fun _ _ _ h => h) (Or.inl ⟨by kernel_rfl, ?hy10_48⟩) hS (by kernel_rfl) ?ha10_48 ?_
            case hy10_48 => intro w_ hS_; first | (go_simp; done) | (go_simp; with_reducible rfl)
            case ha10_48 => simp only [Act.put, List.setIfInBounds_toArray, List.set_cons_zero, List.set_cons_succ] <;> with_reducible rfl
            refine takeD (i := 11) (ac2 := ?aa11_49) (v := ?v11_49) (d := some 72) (ls2 := #[true, true, true, true, true, true, true, true, true, true, true, true, false, false, false, false, false, false, false, false, false, false, false, false]) rfl rfl (by kernel_rfl) (by kernel_rfl) (by kernel_rfl) (fun _ _ _ h => h) (Or.inl ⟨by kernel_rfl, ?hy11_49⟩) hS (by kernel_rfl) ?ha11_49 ?_
            case hy11_49 => intro w_ hS_; first | (go_simp; done) | (go_simp; with_reducible rfl)
            case ha11_49 => simp only [Act.put, List.setIfInBounds_toArray, List.set_cons_zero, List.set_cons_succ] <;> with_reducible rfl
            refine takeD (i := 12) (ac2 := ?aa12_50) (v := ?v12_50) (d := some 73) (ls2 := #[true, true, true, true, true, true, true, true, true, true, true, true, true, false, false, false, false, false, false, false, false, false, false, false]) rfl rfl (by kernel_rfl) (by kernel_rfl) (by kernel_rfl) (fun _ _ _ h => h) (Or.inl ⟨by kernel_rfl, ?hy12_50⟩) hS (by kernel_rfl) ?ha12_50 ?_
            case hy12_50 => intro w_ hS_; first | (go_simp; done) | (go_simp; with_reducible rfl)
            case ha12_50 => simp only [Act.put, List.setIfInBounds_toArray, List.set_cons_zero, List.set_cons_succ] <;> with_reducible rfl
            refine takeD (i := 13) (ac2 := ?aa13_51) (v := ?v13_51) (d := some 74) (ls2 := #[true, true, true, true, true, true, true, true, true, true, true, true, true, true, false, false, false, false, false, false, false, false, false, false]) rfl rfl (by kernel_rfl) (by kernel_rfl) (by kernel_rfl) (fun _ _ _ h => h) (Or.inl ⟨by kernel_rfl, ?hy13_51⟩) hS (by kernel_rfl) ?ha13_51 ?_
            case hy13_51 => intro w_ hS_; first | (go_simp; done) | (go_simp; with_reducible rfl)
            case ha13_51 => simp only [Act.put, List.setIfInBounds_toArray, List.set_cons_zero, List.set_cons_succ] <;> with_reducible rfl
            refine takeD (i := 14) (ac2 := ?aa14_52) (v := ?v14_52) (d := some 75) (ls2 := #[true, true, true, true, true, true, true, true, true, true, true, true, true, true, true, false, false, false, false, false, false, false, false, false]) rfl rfl (by kernel_rfl) (by kernel_rfl) (by kernel_rfl) (fun _ _ _ h => h) (Or.inl ⟨by kernel_rfl, ?hy14_52⟩) hS (by kernel_rfl) ?ha14_52 ?_
            case hy14_52 => intro w_ hS_; first | (go_simp; done) | (go_simp; with_reducible rfl)
            case ha14_52 => simp only [Act.put, List.setIfInBounds_toArray, List.set_cons_zero, List.set_cons_succ] <;> with_reducible rfl
            refine takeD (i := 15) (ac2 := ?aa15_53) (v := ?v15_53) (d := some 76) (ls2 := #[true, true, true, true, true, true, true, true, true, true, true, true, true, true, true, true, false, false, false, false, false, false, false, false]) rfl rfl (by kernel_rfl) (by kernel_rfl) (by kernel_rfl) (fun _ _ _ h => h) (Or.inl ⟨by kernel_rfl, ?hy15_53⟩) hS (by kernel_rfl) ?ha15_53 ?_
            case hy15_53 => intro w_ hS_; first | (go_simp; done) | (go_simp; with_reducible rfl)
            case ha15_53 => simp only [Act.put, List.setIfInBounds_toArray, List.set_cons_zero, List.set_cons_succ] <;> with_reducible rfl
            refine takeD (i := 16) (ac2 := ?aa16_54) (v := ?v16_54) (d := some 77) (ls2 := #[true, true, true, true, true, true, true, true, true, true, true, true, true, true, true, true, true, false, false, false, false, false, false, false]) rfl rfl (by kernel_rfl) (by kernel_rfl) (by kernel_rfl) (fun _ _ _ h => h) (Or.inl ⟨by kernel_rfl, ?hy16_54⟩) hS (by kernel_rfl) ?ha16_54 ?_
            case hy16_54 => intro w_ hS_; (replace hS_ : Below WX.heap.size WX w_ := hS_); have a0_ := below_cell hS_ HY0.out; first | (go_simp; done) | (go_simp; with_reducible rfl)
            case ha16_54 => simp only [Act.put, List.setIfInBounds_toArray, List.set_cons_zero, List.set_cons_succ] <;> with_reducible rfl
            refine takeD (i := 17) (ac2 := ?aa17_55) (v := ?v17_55) (d := some 78) (ls2 := #[true, true, true, true, true, true, true, true, true, true, true, true, true, true, true, true, true, true, false, false, false, false, false, false]) rfl rfl (by kernel_rfl) (by kernel_rfl) (by kernel_rfl) (fun _ _ _ h => h) (Or.inl ⟨by kernel_rfl, ?hy17_55⟩) hS (by kernel_rfl) ?ha17_55 ?_
            case hy17_55 => intro w_ hS_; first | (go_simp; done) | (go_simp; with_reducible rfl)
            case ha17_55 => simp only [Act.put, List.setIfInBounds_toArray, List.set_cons_zero, List.set_cons_succ] <;> with_reducible rfl
            refine takeD (i := 18) (ac2 := ?aa18_56) (v := ?v18_56) (d := some 79) (ls2 := #[true, true, true, true, true, true, true, true, true, true, true, true, true, true, true, true, true, true, true, false, false, false, false, false]) rfl rfl (by kernel_rfl) (by kernel_rfl) (by kernel_rfl) (fun _ _ _ h => h) (Or.inl ⟨by kernel_rfl, ?hy18_56⟩) hS (by kernel_rfl) ?ha18_56 ?_
            case hy18_56 => intro w_ hS_; first | (go_simp; done) | (go_simp; with_reducible rfl)
            case ha18_56 => simp only [Act.put, List.setIfInBounds_toArray, List.set_cons_zero, List.set_cons_succ] <;> with_reducible rfl
            refine takeD (i := 19) (ac2 := ?aa19_57) (v := ?v19_57) (d := some 80) (ls2 := #[true, true, true, true, true, true, true, true, true, true, true, true, true, true, true, true, true, true, true, true, false, false, false, false]) rfl rfl (by kernel_rfl) (by kernel_rfl) (by kernel_rfl) (fun _ _ _ h => h) (Or.inl ⟨by kernel_rfl, ?hy19_57⟩) hS (by kernel_rfl) ?ha19_57 ?_
            case hy19_57 => intro w_ hS_; first | (go_simp; done) | (go_simp; with_reducible rfl)
            case ha19_57 => simp only [Act.put, List.setIfInBounds_toArray, List.set_cons_zero, List.set_cons_succ] <;> with_reducible rfl
            refine takeD (i := 20) (ac2 := ?aa20_58) (v := ?v20_58) (d := some 81) (ls2 := #[true, true, true, true, true, true, true, true, true, true, true, true, true, true, true, true, true, true, true, true, true, false, false, false]) rfl rfl (by kernel_rfl) (by kernel_rfl) (by kernel_rfl) (fun _ _ _ h => h) (Or.inl ⟨by kernel_rfl, ?hy20_58⟩) hS (by kernel_rfl) ?ha20_58 ?_
            case hy20_58 => intro w_ hS_; first | (go_simp; done) | (go_simp; with_reducible rfl)
            case ha20_58 => simp only [Act.put, List.setIfInBounds_toArray, List.set_cons_zero, List.set_cons_succ] <;> with_reducible rfl
            refine takeD (i := 21) (ac2 := ?aa21_59) (v := ?v21_59) (d := some 82) (ls2 := #[true, true, true, true, true, true, true, true, true, true, true, true, true, true, true, true, true, true, true, true, true, true, false, false]) rfl rfl (by kernel_rfl) (by kernel_rfl) (by kernel_rfl) (fun _ _ _ h => h) (Or.inl ⟨by kernel_rfl, ?hy21_59⟩) hS (by kernel_rfl) ?ha21_59 ?_
            case hy21_59 => intro w_ hS_; (replace hS_ : Below WX.heap.size WX w_ := hS_); have a0_ := below_cell hS_ HX0.out; first | (go_simp; done) | (go_simp; with_reducible rfl)
            case ha21_59 => simp only [Act.put, List.setIfInBounds_toArray, List.set_cons_zero, List.set_cons_succ] <;> with_reducible rfl
            refine takeD (i := 22) (ac2 := ?aa22_60) (v := ?v22_60) (d := some 83) (ls2 := #[true, true, true, true, true, true, true, true, true, true, true, true, true, true, true, true, true, true, true, true, true, true, true, false]) rfl rfl (by kernel_rfl) (by kernel_rfl) (by kernel_rfl) (fun _ _ _ h => h) (Or.inl ⟨by kernel_rfl, ?hy22_60⟩) hS (by kernel_rfl) ?ha22_60 ?_
            case hy22_60 => intro w_ hS_; first | (go_simp; done) | (go_simp; with_reducible rfl)
            case ha22_60 => simp only [Act.put, List.setIfInBounds_toArray, List.set_cons_zero, List.set_cons_succ] <;> with_reducible rfl
            refine takeD (i := 23) (ac2 := ?aa23_61) (v := ?v23_61) (d := some 84) (ls2 := #[true, true, true, true, true, true, true, true, true, true, true, true, true, true, true, true, true, true, true, true, true, true, true, true]) rfl rfl (by kernel_rfl) (by kernel_rfl) (by kernel_rfl) (fun _ _ _ h => h) (Or.inl ⟨by kernel_rfl, ?hy23_61⟩) hS (by kernel_rfl) ?ha23_61 ?_
            case hy23_61 => intro w_ hS_; first | (go_simp; done) | (go_simp; with_reducible rfl)
            case ha23_61 => simp only [Act.put, List.setIfInBounds_toArray, List.set_cons_zero, List.set_cons_succ] <;> with_reducible rfl
            refine wpAnyH_done (by kernel_rfl) ?_ _
            try go_simp
            go_wp2
            go_roundg gk
            case measure => omega
            case rel => exact ⟨k + 1, by first | rfl | (congr 1), by omega, by omega, HQ.out.trans (hS.mono HQ.out.size)⟩
      | true =>
        have hlp : i < po.length := of_decide_eq_true hbn
        go_wp2
        clear x1
        obtain ⟨WX, hWX⟩ : ∃ W, W = wr := ⟨_, rfl⟩
        subst hWX
        refine wp_region_held_drew (S := fun w_ => Below WX.heap.size WX w_) (by kernel_rfl) (below_drew (Below.refl _ _)) (fun hS_ => ?_)
        have hS : Below WX.heap.size WX _ := hS_
        clear hS_
        change wpAnyH _ _ _ _ _ 14 #[false, false, false, false, false, false, false, false, false, false, false, false, false, false] _ _
        refine takeD (i := 0) (ac2 := ?aa0_62) (v := ?v0_62) (d := some 42) (ls2 := #[true, false, false, false, false, false, false, false, false, false, false, false, false, false]) rfl rfl (by kernel_rfl) (by kernel_rfl) (by kernel_rfl) (fun _ _ _ h => h) (Or.inl ⟨by kernel_rfl, ?hy0_62⟩) hS (by kernel_rfl) ?ha0_62 ?_
        case hy0_62 => intro w_ hS_; (replace hS_ : Below WX.heap.size WX w_ := hS_); have a0_ := below_cell hS_ HG0.out; have a1_ := below_cell hS_ HG1.out; have a2_ := below_cell hS_ HG2.out; first | (go_simp; done) | (go_simp; with_reducible rfl)
        case ha0_62 => simp only [Act.put, List.setIfInBounds_toArray, List.set_cons_zero, List.set_cons_succ] <;> with_reducible rfl
        refine takeD (i := 1) (ac2 := ?aa1_63) (v := ?v1_63) (d := some 43) (ls2 := #[true, true, false, false, false, false, false, false, false, false, false, false, false, false]) rfl rfl (by kernel_rfl) (by kernel_rfl) (by kernel_rfl) (fun _ _ _ h => h) (Or.inl ⟨by kernel_rfl, ?hy1_63⟩) hS (by kernel_rfl) ?ha1_63 ?_
        case hy1_63 => intro w_ hS_; first | (go_simp; done) | (go_simp; with_reducible rfl)
        case ha1_63 => simp only [Act.put, List.setIfInBounds_toArray, List.set_cons_zero, List.set_cons_succ] <;> with_reducible rfl
        refine takeD (i := 2) (ac2 := ?aa2_64) (v := ?v2_64) (d := some 44) (ls2 := #[true, true, true, false, false, false, false, false, false, false, false, false, false, false]) rfl rfl (by kernel_rfl) (by kernel_rfl) (by kernel_rfl) (fun _ _ _ h => h) (Or.inl ⟨by kernel_rfl, ?hy2_64⟩) hS (by kernel_rfl) ?ha2_64 ?_
        case hy2_64 => intro w_ hS_; first | (go_simp; done) | (go_simp; with_reducible rfl)
        case ha2_64 => simp only [Act.put, List.setIfInBounds_toArray, List.set_cons_zero, List.set_cons_succ] <;> with_reducible rfl
        refine takeD (i := 3) (ac2 := ?aa3_65) (v := ?v3_65) (d := some 45) (ls2 := #[true, true, true, true, false, false, false, false, false, false, false, false, false, false]) rfl rfl (by kernel_rfl) (by kernel_rfl) (by kernel_rfl) (fun _ _ _ h => h) (Or.inl ⟨by kernel_rfl, ?hy3_65⟩) hS (by kernel_rfl) ?ha3_65 ?_
        case hy3_65 => intro w_ hS_; first | (go_simp; done) | (go_simp; with_reducible rfl)
        case ha3_65 => simp only [Act.put, List.setIfInBounds_toArray, List.set_cons_zero, List.set_cons_succ] <;> with_reducible rfl
        refine takeD (i := 4) (ac2 := ?aa4_66) (v := ?v4_66) (d := some 46) (ls2 := #[true, true, true, true, true, false, false, false, false, false, false, false, false, false]) rfl rfl (by kernel_rfl) (by kernel_rfl) (by kernel_rfl) (fun _ _ _ h => h) (Or.inl ⟨by kernel_rfl, ?hy4_66⟩) hS (by kernel_rfl) ?ha4_66 ?_
        case hy4_66 => intro w_ hS_; first | (go_simp; done) | (go_simp; with_reducible rfl)
        case ha4_66 => simp only [Act.put, List.setIfInBounds_toArray, List.set_cons_zero, List.set_cons_succ] <;> with_reducible rfl
        refine takeD (i := 5) (ac2 := ?aa5_67) (v := ?v5_67) (d := some 47) (ls2 := #[true, true, true, true, true, true, false, false, false, false, false, false, false, false]) rfl rfl (by kernel_rfl) (by kernel_rfl) (by kernel_rfl) (fun _ _ _ h => h) (Or.inl ⟨by kernel_rfl, ?hy5_67⟩) hS (by kernel_rfl) ?ha5_67 ?_
        case hy5_67 => intro w_ hS_; (replace hS_ : Below WX.heap.size WX w_ := hS_); have a3_ := below_cell hS_ HX1.out; first | (go_simp; done) | (go_simp; with_reducible rfl)
        case ha5_67 => simp only [Act.put, List.setIfInBounds_toArray, List.set_cons_zero, List.set_cons_succ] <;> with_reducible rfl
        refine takeD (i := 6) (ac2 := ?aa6_68) (v := ?v6_68) (d := some 48) (ls2 := #[true, true, true, true, true, true, true, false, false, false, false, false, false, false]) rfl rfl (by kernel_rfl) (by kernel_rfl) (by kernel_rfl) (fun _ _ _ h => h) (Or.inl ⟨by kernel_rfl, ?hy6_68⟩) hS (by kernel_rfl) ?ha6_68 ?_
        case hy6_68 => intro w_ hS_; first | (go_simp; done) | (go_simp; with_reducible rfl)
        case ha6_68 => simp only [Act.put, List.setIfInBounds_toArray, List.set_cons_zero, List.set_cons_succ] <;> with_reducible rfl
        refine takeD (i := 7) (ac2 := ?aa7_69) (v := ?v7_69) (d := some 49) (ls2 := #[true, true, true, true, true, true, true, true, false, false, false, false, false, false]) rfl rfl (by kernel_rfl) (by kernel_rfl) (by kernel_rfl) (fun _ _ _ h => h) (Or.inl ⟨by kernel_rfl, ?hy7_69⟩) hS (by kernel_rfl) ?ha7_69 ?_
        case hy7_69 => intro w_ hS_; (replace hS_ : Below WX.heap.size WX w_ := hS_); have a4_ := below_cell hS_ HP0.out; first | (go_simp; done) | (go_simp; with_reducible rfl)
        case ha7_69 => simp only [Act.put, List.setIfInBounds_toArray, List.set_cons_zero, List.set_cons_succ] <;> with_reducible rfl
        refine takeD (i := 9) (ac2 := ?aa9_70) (v := ?v9_70) (d := some 51) (ls2 := #[true, true, true, true, true, true, true, true, false, true, false, false, false, false]) rfl rfl (by kernel_rfl) (by kernel_rfl) (by kernel_rfl) (fun _ _ _ h => h) (Or.inl ⟨by kernel_rfl, ?hy9_70⟩) hS (by kernel_rfl) ?ha9_70 ?_
        case hy9_70 => intro w_ hS_; first | (go_simp; done) | (go_simp; with_reducible rfl)
        case ha9_70 => simp only [Act.put, List.setIfInBounds_toArray, List.set_cons_zero, List.set_cons_succ] <;> with_reducible rfl
        refine takeD (i := 10) (ac2 := ?aa10_71) (v := ?v10_71) (d := some 52) (ls2 := #[true, true, true, true, true, true, true, true, false, true, true, false, false, false]) rfl rfl (by kernel_rfl) (by kernel_rfl) (by kernel_rfl) (fun _ _ _ h => h) (Or.inl ⟨by kernel_rfl, ?hy10_71⟩) hS (by kernel_rfl) ?ha10_71 ?_
        case hy10_71 => intro w_ hS_; first | (go_simp; done) | (go_simp; with_reducible rfl)
        case ha10_71 => simp only [Act.put, List.setIfInBounds_toArray, List.set_cons_zero, List.set_cons_succ] <;> with_reducible rfl
        refine takeD (i := 11) (ac2 := ?aa11_72) (v := ?v11_72) (d := some 53) (ls2 := #[true, true, true, true, true, true, true, true, false, true, true, true, false, false]) rfl rfl (by kernel_rfl) (by kernel_rfl) (by kernel_rfl) (fun _ _ _ h => h) (Or.inl ⟨by kernel_rfl, ?hy11_72⟩) hS (by kernel_rfl) ?ha11_72 ?_
        case hy11_72 => intro w_ hS_; first | (go_simp; done) | (go_simp; with_reducible rfl)
        case ha11_72 => simp only [Act.put, List.setIfInBounds_toArray, List.set_cons_zero, List.set_cons_succ] <;> with_reducible rfl
        refine takeD (i := 12) (ac2 := ?aa12_73) (v := ?v12_73) (d := some 54) (ls2 := #[true, true, true, true, true, true, true, true, false, true, true, true, true, false]) rfl rfl (by kernel_rfl) (by kernel_rfl) (by kernel_rfl) (fun _ _ _ h => h) (Or.inl ⟨by kernel_rfl, ?hy12_73⟩) hS (by kernel_rfl) ?ha12_73 ?_
        case hy12_73 => intro w_ hS_; first | (go_simp; done) | (go_simp; with_reducible rfl)
        case ha12_73 => simp only [Act.put, List.setIfInBounds_toArray, List.set_cons_zero, List.set_cons_succ] <;> with_reducible rfl
        refine doD (i := 8) (ls2 := #[true, true, true, true, true, true, true, true, true, true, true, true, true, false]) (by kernel_rfl) rfl (by kernel_rfl) (by kernel_rfl) (fun K hK => ?_)
        go_simp
        go_wp2_with (first | (go_at_call 22; go_loud ((with_reducible refine (HCL.out _).mono ?_); rintro e w3 ⟨rfl, hb3⟩)))
        refine hK.out _ _ ?_ (fun hS_ => ?_)
        · show Below WX.heap.size WX _
          exact hS.trans (hb3.mono hS.size)
        clear hK K hS hb3
        have hS : Below WX.heap.size WX _ := hS_
        clear hS_
        refine takeD (i := 13) (ac2 := ?aa13_74) (v := ?v13_74) (d := some 55) (ls2 := #[true, true, true, true, true, true, true, true, true, true, true, true, true, true]) rfl rfl (by kernel_rfl) (by kernel_rfl) (by kernel_rfl) (fun _ _ _ h => h) (Or.inl ⟨by kernel_rfl, ?hy13_74⟩) hS (by kernel_rfl) ?ha13_74 ?_
        case hy13_74 => intro w_ hS_; first | (go_simp; done) | (go_simp; with_reducible rfl)
        case ha13_74 => simp only [Act.put, List.setIfInBounds_toArray, List.set_cons_zero, List.set_cons_succ] <;> with_reducible rfl
        refine wpAnyH_done (by kernel_rfl) ?_ _
        try go_simp
        have HS := Lib.hid (HBR.out.trans (hS.mono HBR.out.size))
        clear hS HP0 HG0 HG1 HG2 HX1 HCL HBR
        go_wp2
        go_loopg [10] i (fun kq v10 wq => ∃ (k : Nat), v10 = .int .i64 (k : Int) ∧ k ≤ i ∧ i - k ≤ kq ∧ Below wb.heap.size wb wq)
        case atStart => exact ⟨0, rfl, Nat.zero_le _, by omega, HS.out⟩
        case round =>
          obtain ⟨k, rfl, hki, hkk, hbq⟩ := hrel
          by_cases hlk : k < i
          rotate_left
          · have d3 : decide ((k : Int) < (i : Int)) = false := decide_eq_false (by omega)
            have hwi : IntKind.i64.wrap ((i : Int) + 1) = (i : Int) + 1 := by rw [IntKind.wrap_i64]; omega
            have HQ := Lib.hid hbq
            clear hbq
            go_wp2
            go_roundg og
            case measure => omega
            case rel => exact ⟨i + 1, by first | rfl | (congr 1), by omega, by omega, HQ.out⟩
          have d3 : decide ((k : Int) < (i : Int)) = true := decide_eq_true (by omega)
          have hwk : IntKind.i64.wrap ((k : Int) + 1) = (k : Int) + 1 := by rw [IntKind.wrap_i64]; omega
          have hne := HNK.out k i hlk hlt
          rw [HX.out] at hne
          obtain ⟨ad1, had1, x0, x1, _⟩ := at_T46 (Kd.C_below HCB.out hbq) (i : Int) (by omega) (by omega)
          obtain ⟨ad2, had2, y0, y1, _⟩ := at_T46 (Kd.C_below HCB.out hbq) (k : Int) (by omega) (by omega)
          cases had1
          cases had2
          rw [Int.toNat_natCast, HX.out] at x0 x1
          rw [Int.toNat_natCast] at y0 y1
          obtain ⟨y, hy⟩ : ∃ y, rd_T46 LA (k : Int) = y := ⟨_, rfl⟩
          rw [hy] at y0 y1 hne
          have hbi : (0 : Int) ≤ (i : Int) ∧ (i : Int) < (LA.length : Int) := by omega
          have hbk : (0 : Int) ≤ (k : Int) ∧ (k : Int) < (LA.length : Int) := by omega
          have HX0 := Lib.hid x0
          have HX1 := Lib.hid x1
          have HY0 := Lib.hid y0
          have HY1 := Lib.hid y1
          obtain ⟨b9, d9⟩ : ∃ b, (y.f1 == x.f1) = b := ⟨_, rfl⟩
          have d8 : b9 = true → (y.f0 == x.f0) = false := by
            intro e
            rw [e] at d9
            refine beq_eq_false_iff_ne.2 (fun e2 => hne ?_)
            unfold keyC
            rw [e2, beq_iff_eq.1 d9]
          have HQ := Lib.hid hbq
          have H8 := Lib.hid d8
          cases gk with
          | zero => omega
          | succ gk =>
          clear hne x0 x1 y0 y1 hy d8 hbq
          go_wp2
          obtain ⟨WX, hWX⟩ : ∃ W, W = wr := ⟨_, rfl⟩
          subst hWX
          cases b9 with
          | false =>
            refine wp_region_held_drew (S := fun w_ => Below WX.heap.size WX w_) (by kernel_rfl) (below_drew (Below.refl _ _)) (fun hS_ => ?_)
            have hS : Below WX.heap.size WX _ := hS_
            clear hS_
            change wpAnyH _ _ _ _ _ 24 #[false, false, false, false, false, false, false, false, false, false, false, false, false, false, false, false, false, false, false, false, false, false, false, false] _ _
            refine takeD (i := 0) (ac2 := ?aa0_75) (v := ?v0_75) (d := some 61) (ls2 := #[true, false, false, false, false, false, false, false, false, false, false, false, false, false, false, false, false, false, false, false, false, false, false, false]) rfl rfl (by kernel_rfl) (by kernel_rfl) (by kernel_rfl) (fun _ _ _ h => h) (Or.inl ⟨by kernel_rfl, ?hy0_75⟩) hS (by kernel_rfl) ?ha0_75 ?_
            case hy0_75 => intro w_ hS_; first | (go_simp; done) | (go_simp; with_reducible rfl)
            case ha0_75 => simp only [Act.put, List.setIfInBounds_toArray, List.set_cons_zero, List.set_cons_succ] <;> with_reducible rfl
            refine takeD (i := 1) (ac2 := ?aa1_76) (v := ?v1_76) (d := some 62) (ls2 := #[true, true, false, false, false, false, false, false, false, false, false, false, false, false, false, false, false, false, false, false, false, false, false, false]) rfl rfl (by kernel_rfl) (by kernel_rfl) (by kernel_rfl) (fun _ _ _ h => h) (Or.inl ⟨by kernel_rfl, ?hy1_76⟩) hS (by kernel_rfl) ?ha1_76 ?_
            case hy1_76 => intro w_ hS_; first | (go_simp; done) | (go_simp; with_reducible rfl)
            case ha1_76 => simp only [Act.put, List.setIfInBounds_toArray, List.set_cons_zero, List.set_cons_succ] <;> with_reducible rfl
            refine takeD (i := 2) (ac2 := ?aa2_77) (v := ?v2_77) (d := some 63) (ls2 := #[true, true, true, false, false, false, false, false, false, false, false, false, false, false, false, false, false, false, false, false, false, false, false, false]) rfl rfl (by kernel_rfl) (by kernel_rfl) (by kernel_rfl) (fun _ _ _ h => h) (Or.inl ⟨by kernel_rfl, ?hy2_77⟩) hS (by kernel_rfl) ?ha2_77 ?_
            case hy2_77 => intro w_ hS_; first | (go_simp; done) | (go_simp; with_reducible rfl)
            case ha2_77 => simp only [Act.put, List.setIfInBounds_toArray, List.set_cons_zero, List.set_cons_succ] <;> with_reducible rfl
            refine takeD (i := 3) (ac2 := ?aa3_78) (v := ?v3_78) (d := some 64) (ls2 := #[true, true, true, true, false, false, false, false, false, false, false, false, false, false, false, false, false, false, false, false, false, false, false, false]) rfl rfl (by kernel_rfl) (by kernel_rfl) (by kernel_rfl) (fun _ _ _ h => h) (Or.inl ⟨by kernel_rfl, ?hy3_78⟩) hS (by kernel_rfl) ?ha3_78 ?_
            case hy3_78 => intro w_ hS_; first | (go_simp; done) | (go_simp; with_reducible rfl)
            case ha3_78 => simp only [Act.put, List.setIfInBounds_toArray, List.set_cons_zero, List.set_cons_succ] <;> with_reducible rfl
            refine takeD (i := 4) (ac2 := ?aa4_79) (v := ?v4_79) (d := some 65) (ls2 := #[true, true, true, true, true, false, false, false, false, false, false, false, false, false, false, false, false, false, false, false, false, false, false, false]) rfl rfl (by kernel_rfl) (by kernel_rfl) (by kernel_rfl) (fun _ _ _ h => h) (Or.inl ⟨by kernel_rfl, ?hy4_79⟩) hS (by kernel_rfl) ?ha4_79 ?_
            case hy4_79 => intro w_ hS_; (replace hS_ : Below WX.heap.size WX w_ := hS_); have a0_ := below_cell hS_ HY1.out; first | (go_simp; done) | (go_simp; with_reducible rfl)
            case ha4_79 => simp only [Act.put, List.setIfInBounds_toArray, List.set_cons_zero, List.set_cons_succ] <;> with_reducible rfl
            refine takeD (i := 5) (ac2 := ?aa5_80) (v := ?v5_80) (d := some 66) (ls2 := #[true, true, true, true, true, true, false, false, false, false, false, false, false, false, false, false, false, false, false, false, false, false, false, false]) rfl rfl (by kernel_rfl) (by kernel_rfl) (by kernel_rfl) (fun _ _ _ h => h) (Or.inl ⟨by kernel_rfl, ?hy5_80⟩) hS (by kernel_rfl) ?ha5_80 ?_
            case hy5_80 => intro w_ hS_; first | (go_simp; done) | (go_simp; with_reducible rfl)
            case ha5_80 => simp only [Act.put, List.setIfInBounds_toArray, List.set_cons_zero, List.set_cons_succ] <;> with_reducible rfl
            refine takeD (i := 6) (ac2 := ?aa6_81) (v := ?v6_81) (d := some 67) (ls2 := #[true, true, true, true, true, true, true, false, false, false, false, false, false, false, false, false, false, false, false, false, false, false, false, false]) rfl rfl (by kernel_rfl) (by kernel_rfl) (by kernel_rfl) (fun _ _ _ h => h) (Or.inl ⟨by kernel_rfl, ?hy6_81⟩) hS (by kernel_rfl) ?ha6_81 ?_
            case hy6_81 => intro w_ hS_; first | (go_simp; done) | (go_simp; with_reducible rfl)
            case ha6_81 => simp only [Act.put, List.setIfInBounds_toArray, List.set_cons_zero, List.set_cons_succ] <;> with_reducible rfl
            refine takeD (i := 7) (ac2 := ?aa7_82) (v := ?v7_82) (d := some 68) (ls2 := #[true, true, true, true, true, true, true, true, false, false, false, false, false, false, false, false, false, false, false, false, false, false, false, false]) rfl rfl (by kernel_rfl) (by kernel_rfl) (by kernel_rfl) (fun _ _ _ h => h) (Or.inl ⟨by kernel_rfl, ?hy7_82⟩) hS (by kernel_rfl) ?ha7_82 ?_
            case hy7_82 => intro w_ hS_; first | (go_simp; done) | (go_simp; with_reducible rfl)
            case ha7_82 => simp only [Act.put, List.setIfInBounds_toArray, List.set_cons_zero, List.set_cons_succ] <;> with_reducible rfl
            refine takeD (i := 8) (ac2 := ?aa8_83) (v := ?v8_83) (d := some 69) (ls2 := #[true, true, true, true, true, true, true, true, true, false, false, false, false, false, false, false, false, false, false, false, false, false, false, false]) rfl rfl (by kernel_rfl) (by kernel_rfl) (by kernel_rfl) (fun _ _ _ h => h) (Or.inl ⟨by kernel_rfl, ?hy8_83⟩) hS (by kernel_rfl) ?ha8_83 ?_
            case hy8_83 => intro w_ hS_; first | (go_simp; done) | (go_simp; with_reducible rfl)
            case ha8_83 => simp only [Act.put, List.setIfInBounds_toArray, List.set_cons_zero, List.set_cons_succ] <;> with_reducible rfl
            refine takeD (i := 9) (ac2 := ?aa9_84) (v := ?v9_84) (d := some 70) (ls2 := #[true, true, true, true, true, true, true, true, true, true, false, false, false, false, false, false, false, false, false, false, false, false, false, false]) rfl rfl (by kernel_rfl) (by kernel_rfl) (by kernel_rfl) (fun _ _ _ h => h) (Or.inl ⟨by kernel_rfl, ?hy9_84⟩) hS (by kernel_rfl) ?ha9_84 ?_
            case hy9_84 => intro w_ hS_; (replace hS_ : Below WX.heap.size WX w_ := hS_); have a0_ := below_cell hS_ HX1.out; first | (go_simp; done) | (go_simp; with_reducible rfl)
            case ha9_84 => simp only [Act.put, List.setIfInBounds_toArray, List.set_cons_zero, List.set_cons_succ] <;> with_reducible rfl
            refine takeD (i := 10) (ac2 := ?aa10_85) (v := ?v10_85) (d := some 71) (ls2 := #[true, true, true, true, true, true, true, true, true, true, true, false, false, false, false, false, false, false, false, false, false, false, false, false]) rfl rfl (by kernel_rfl) (by kernel_rfl) (by kernel_rfl) (fun _ _ _ h => h) (Or.inl ⟨by kernel_rfl, ?hy10_85⟩) hS (by kernel_rfl) ?ha10_85 ?_
            case hy10_85 => intro w_ hS_; first | (go_simp; done) | (go_simp; with_reducible rfl)
            case ha10_85 => simp only [Act.put, List.setIfInBounds_toArray, List.set_cons_zero, List.set_cons_succ] <;> with_reducible rfl
            refine takeD (i := 11) (ac2 := ?aa11_86) (v := ?v11_86) (d := some 72) (ls2 := #[true, true, true, true, true, true, true, true, true, true, true, true, false, false, false, false, false, false, false, false, false, false, false, false]) rfl rfl (by kernel_rfl) (by kernel_rfl) (by kernel_rfl) (fun _ _ _ h => h) (Or.inl ⟨by kernel_rfl, ?hy11_86⟩) hS (by kernel_rfl) ?ha11_86 ?_
            case hy11_86 => intro w_ hS_; first | (go_simp; done) | (go_simp; with_reducible rfl)
            case ha11_86 => simp only [Act.put, List.setIfInBounds_toArray, List.set_cons_zero, List.set_cons_succ] <;> with_reducible rfl
            refine takeD (i := 12) (ac2 := ?aa12_87) (v := undef) (d := some 73) (ls2 := #[true, true, true, true, true, true, true, true, true, true, true, true, true, false, false, false, false, false, false, false, false, false, false, false]) rfl rfl (by kernel_rfl) (by kernel_rfl) (by kernel_rfl) (fun _ _ _ h => h) (Or.inr ⟨by kernel_rfl, rfl⟩) hS (by kernel_rfl) ?ha12_87 ?_
            case ha12_87 => simp only [Act.put, List.setIfInBounds_toArray, List.set_cons_zero, List.set_cons_succ] <;> with_reducible rfl
            refine takeD (i := 13) (ac2 := ?aa13_88) (v := undef) (d := some 74) (ls2 := #[true, true, true, true, true, true, true, true, true, true, true, true, true, true, false, false, false, false, false, false, false, false, false, false]) rfl rfl (by kernel_rfl) (by kernel_rfl) (by kernel_rfl) (fun _ _ _ h => h) (Or.inr ⟨by kernel_rfl, rfl⟩) hS (by kernel_rfl) ?ha13_88 ?_
            case ha13_88 => simp only [Act.put, List.setIfInBounds_toArray, List.set_cons_zero, List.set_cons_succ] <;> with_reducible rfl
            refine takeD (i := 14) (ac2 := ?aa14_89) (v := undef) (d := some 75) (ls2 := #[true, true, true, true, true, true, true, true, true, true, true, true, true, true, true, false, false, false, false, false, false, false, false, false]) rfl rfl (by kernel_rfl) (by kernel_rfl) (by kernel_rfl) (fun _ _ _ h => h) (Or.inr ⟨by kernel_rfl, rfl⟩) hS (by kernel_rfl) ?ha14_89 ?_
            case ha14_89 => simp only [Act.put, List.setIfInBounds_toArray, List.set_cons_zero, List.set_cons_succ] <;> with_reducible rfl
            refine takeD (i := 15) (ac2 := ?aa15_90) (v := undef) (d := some 76) (ls2 := #[true, true, true, true, true, true, true, true, true, true, true, true, true, true, true, true, false, false, false, false, false, false, false, false]) rfl rfl (by kernel_rfl) (by kernel_rfl) (by kernel_rfl) (fun _ _ _ h => h) (Or.inr ⟨by kernel_rfl, rfl⟩) hS (by kernel_rfl) ?ha15_90 ?_
            case ha15_90 => simp only [Act.put, List.setIfInBounds_toArray, List.set_cons_zero, List.set_cons_succ] <;> with_reducible rfl
            refine takeD (i := 16) (ac2 := ?aa16_91) (v := undef) (d := some 77) (ls2 := #[true, true, true, true, true, true, true, true, true, true, true, true, true, true, true, true, true, false, false, false, false, false, false, false]) rfl rfl (by kernel_rfl) (by kernel_rfl) (by kernel_rfl) (fun _ _ _ h => h) (Or.inr ⟨by kernel_rfl, rfl⟩) hS (by kernel_rfl) ?ha16_91 ?_
            case ha16_91 => simp only [Act.put, List.setIfInBounds_toArray, List.set_cons_zero, List.set_cons_succ] <;> with_reducible rfl
            refine takeD (i := 17) (ac2 := ?aa17_92) (v := undef) (d := some 78) (ls2 := #[true, true, true, true, true, true, true, true, true, true, true, true, true, true, true, true, true, true, false, false, false, false, false, false]) rfl rfl (by kernel_rfl) (by kernel_rfl) (by kernel_rfl) (fun _ _ _ h => h) (Or.inr ⟨by kernel_rfl, rfl⟩) hS (by kernel_rfl) ?ha17_92 ?_
            case ha17_92 => simp only [Act.put, List.setIfInBounds_toArray, List.set_cons_zero, List.set_cons_succ] <;> with_reducible rfl
            refine takeD (i := 18) (ac2 := ?aa18_93) (v := undef) (d := some 79) (ls2 := #[true, true, true, true, true, true, true, true, true, true, true, true, true, true, true, true, true, true, true, false, false, false, false, false]) rfl rfl (by kernel_rfl) (by kernel_rfl) (by kernel_rfl) (fun _ _ _ h => h) (Or.inr ⟨by kernel_rfl, rfl⟩) hS (by kernel_rfl) ?ha18_93 ?_
            case ha18_93 => simp only [Act.put, List.setIfInBounds_toArray, List.set_cons_zero, List.set_cons_succ] <;> with_reducible rfl
            refine takeD (i := 19) (ac2 := ?aa19_94) (v := undef) (d := some 80) (ls2 := #[true, true, true, true, true, true, true, true, true, true, true, true, true, true, true, true, true, true, true, true, false, false, false, false]) rfl rfl (by kernel_rfl) (by kernel_rfl) (by kernel_rfl) (fun _ _ _ h => h) (Or.inr ⟨by kernel_rfl, rfl⟩) hS (by kernel_rfl) ?ha19_94 ?_
            case ha19_94 => simp only [Act.put, List.setIfInBounds_toArray, List.set_cons_zero, List.set_cons_succ] <;> with_reducible rfl
            refine takeD (i := 20) (ac2 := ?aa20_95) (v := undef) (d := some 81) (ls2 := #[true, true, true, true, true, true, true, true, true, true, true, true, true, true, true, true, true, true, true, true, true, false, false, false]) rfl rfl (by kernel_rfl) (by kernel_rfl) (by kernel_rfl) (fun _ _ _ h => h) (Or.inr ⟨by kernel_rfl, rfl⟩) hS (by kernel_rfl) ?ha20_95 ?_
            case ha20_95 => simp only [Act.put, List.setIfInBounds_toArray, List.set_cons_zero, List.set_cons_succ] <;> with_reducible rfl
            refine takeD (i := 21) (ac2 := ?aa21_96) (v := undef) (d := some 82) (ls2 := #[true, true, true, true, true, true, true, true, true, true, true, true, true, true, true, true, true, true, true, true, true, true, false, false]) rfl rfl (by kernel_rfl) (by kernel_rfl) (by kernel_rfl) (fun _ _ _ h => h) (Or.inr ⟨by kernel_rfl, rfl⟩) hS (by kernel_rfl) ?ha21_96 ?_
            case ha21_96 => simp only [Act.put, List.setIfInBounds_toArray, List.set_cons_zero, List.set_cons_succ] <;> with_reducible rfl
            refine takeD (i := 22) (ac2 := ?aa22_97) (v := undef) (d := some 83) (ls2 := #[true, true, true, true, true, true, true, true, true, true, true, true, true, true, true, true, true, true, true, true, true, true, true, false]) rfl rfl (by kernel_rfl) (by kernel_rfl) (by kernel_rfl) (fun _ _ _ h => h) (Or.inr ⟨by kernel_rfl, rfl⟩) hS (by kernel_rfl) ?ha22_97 ?_
            case ha22_97 => simp only [Act.put, List.setIfInBounds_toArray, List.set_cons_zero, List.set_cons_succ] <;> with_reducible rfl
            refine takeD (i := 23) (ac2 := ?aa23_98) (v := ?v23_98) (d := some 84) (ls2 := #[true, true, true, true, true, true, true, true, true, true, true, true, true, true, true, true, true, true, true, true, true, true, true, true]) rfl rfl (by kernel_rfl) (by kernel_rfl) (by kernel_rfl) (fun _ _ _ h => h) (Or.inl ⟨by kernel_rfl, ?hy23_98⟩) hS (by kernel_rfl) ?ha23_98 ?_
            case hy23_98 => intro w_ hS_; first | (go_simp; done) | (go_simp; with_reducible rfl)
            case ha23_98 => simp only [Act.put, List.setIfInBounds_toArray, List.set_cons_zero, List.set_cons_succ] <;> with_reducible rfl
            refine wpAnyH_done (by kernel_rfl) ?_ _
            try go_simp
            go_wp2
            go_roundg gk
            case measure => omega
            case rel => exact ⟨k + 1, by first | rfl | (congr 1), by omega, by omega, HQ.out.trans (hS.mono HQ.out.size)⟩
          | true =>
            have d8 := H8.out rfl
            refine wp_region_held_drew (S := fun w_ => Below WX.heap.size WX w_) (by kernel_rfl) (below_drew (Below.refl _ _)) (fun hS_ => ?_)
            have hS : Below WX.heap.size WX _ := hS_
            clear hS_
            change wpAnyH _ _ _ _ _ 24 #[false, false, false, false, false, false, false, false, false, false, false, false, false, false, false, false, false, false, false, false, false, false, false, false] _ _
            refine takeD (i := 0) (ac2 := ?aa0_99) (v := ?v0_99) (d := some 61) (ls2 := #[true, false, false, false, false, false, false, false, false, false, false, false, false, false, false, false, false, false, false, false, false, false, false, false]) rfl rfl (by kernel_rfl) (by kernel_rfl) (by kernel_rfl) (fun _ _ _ h => h) (Or.inl ⟨by kernel_rfl, ?hy0_99⟩) hS (by kernel_rfl) ?ha0_99 ?_
            case hy0_99 => intro w_ hS_; first | (go_simp; done) | (go_simp; with_reducible rfl)
            case ha0_99 => simp only [Act.put, List.setIfInBounds_toArray, List.set_cons_zero, List.set_cons_succ] <;> with_reducible rfl
            refine takeD (i := 1) (ac2 := ?aa1_100) (v := ?v1_100) (d := some 62) (ls2 := #[true, true, false, false, false, false, false, false, false, false, false, false, false, false, false, false, false, false, false, false, false, false, false, false]) rfl rfl (by kernel_rfl) (by kernel_rfl) (by kernel_rfl) (fun _ _ _ h => h) (Or.inl ⟨by kernel_rfl, ?hy1_100⟩) hS (by kernel_rfl) ?ha1_100 ?_
            case hy1_100 => intro w_ hS_; first | (go_simp; done) | (go_simp; with_reducible rfl)
            case ha1_100 => simp only [Act.put, List.setIfInBounds_toArray, List.set_cons_zero, List.set_cons_succ] <;> with_reducible rfl
            refine takeD (i := 2) (ac2 := ?aa2_101) (v := ?v2_101) (d := some 63) (ls2 := #[true, true, true, false, false, false, false, false, false, false, false, false, false, false, false, false, false, false, false, false, false, false, false, false]) rfl rfl (by kernel_rfl) (by kernel_rfl) (by kernel_rfl) (fun _ _ _ h => h) (Or.inl ⟨by kernel_rfl, ?hy2_101⟩) hS (by kernel_rfl) ?ha2_101 ?_
            case hy2_101 => intro w_ hS_; first | (go_simp; done) | (go_simp; with_reducible rfl)
            case ha2_101 => simp only [Act.put, List.setIfInBounds_toArray, List.set_cons_zero, List.set_cons_succ] <;> with_reducible rfl
            refine takeD (i := 3) (ac2 := ?aa3_102) (v := ?v3_102) (d := some 64) (ls2 := #[true, true, true, true, false, false, false, false, false, false, false, false, false, false, false, false, false, false, false, false, false, false, false, false]) rfl rfl (by kernel_rfl) (by kernel_rfl) (by kernel_rfl) (fun _ _ _ h => h) (Or.inl ⟨by kernel_rfl, ?hy3_102⟩) hS (by kernel_rfl) ?ha3_102 ?_
            case hy3_102 => intro w_ hS_; first | (go_simp; done) | (go_simp; with_reducible rfl)
            case ha3_102 => simp only [Act.put, List.setIfInBounds_toArray, List.set_cons_zero, List.set_cons_succ] <;> with_reducible rfl
            refine takeD (i := 4) (ac2 := ?aa4_103) (v := ?v4_103) (d := some 65) (ls2 := #[true, true, true, true, true, false, false, false, false, false, false, false, false, false, false, false, false, false, false, false, false, false, false, false]) rfl rfl (by kernel_rfl) (by kernel_rfl) (by kernel_rfl) (fun _ _ _ h => h) (Or.inl ⟨by kernel_rfl, ?hy4_103⟩) hS (by kernel_rfl) ?ha4_103 ?_
            case hy4_103 => intro w_ hS_; (replace hS_ : Below WX.heap.size WX w_ := hS_); have a0_ := below_cell hS_ HY1.out; first | (go_simp; done) | (go_simp; with_reducible rfl)
            case ha4_103 => simp only [Act.put, List.setIfInBounds_toArray, List.set_cons_zero, List.set_cons_succ] <;> with_reducible rfl
            refine takeD (i := 5) (ac2 := ?aa5_104) (v := ?v5_104) (d := some 66) (ls2 := #[true, true, true, true, true, true, false, false, false, false, false, false, false, false, false, false, false, false, false, false, false, false, false, false]) rfl rfl (by kernel_rfl) (by kernel_rfl) (by kernel_rfl) (fun _ _ _ h => h) (Or.inl ⟨by kernel_rfl, ?hy5_104⟩) hS (by kernel_rfl) ?ha5_104 ?_
            case hy5_104 => intro w_ hS_; first | (go_simp; done) | (go_simp; with_reducible rfl)
            case ha5_104 => simp only [Act.put, List.setIfInBounds_toArray, List.set_cons_zero, List.set_cons_succ] <;> with_reducible rfl
            refine takeD (i := 6) (ac2 := ?aa6_105) (v := ?v6_105) (d := some 67) (ls2 := #[true, true, true, true, true, true, true, false, false, false, false, false, false, false, false, false, false, false, false, false, false, false, false, false]) rfl rfl (by kernel_rfl) (by kernel_rfl) (by kernel_rfl) (fun _ _ _ h => h) (Or.inl ⟨by kernel_rfl, ?hy6_105⟩) hS (by kernel_rfl) ?ha6_105 ?_
            case hy6_105 => intro w_ hS_; first | (go_simp; done) | (go_simp; with_reducible rfl)
            case ha6_105 => simp only [Act.put, List.setIfInBounds_toArray, List.set_cons_zero, List.set_cons_succ] <;> with_reducible rfl
            refine takeD (i := 7) (ac2 := ?aa7_106) (v := ?v7_106) (d := some 68) (ls2 := #[true, true, true, true, true, true, true, true, false, false, false, false, false, false, false, false, false, false, false, false, false, false, false, false]) rfl rfl (by kernel_rfl) (by kernel_rfl) (by kernel_rfl) (fun _ _ _ h => h) (Or.inl ⟨by kernel_rfl, ?hy7_106⟩) hS (by kernel_rfl) ?ha7_106 ?_
            case hy7_106 => intro w_ hS_; first | (go_simp; done) | (go_simp; with_reducible rfl)
            case ha7_106 => simp only [Act.put, List.setIfInBounds_toArray, List.set_cons_zero, List.set_cons_succ] <;> with_reducible rfl
            refine takeD (i := 8) (ac2 := ?aa8_107) (v := ?v8_107) (d := some 69) (ls2 := #[true, true, true, true, true, true, true, true, true, false, false, false, false, false, false, false, false, false, false, false, false, false, false, false]) rfl rfl (by kernel_rfl) (by kernel_rfl) (by kernel_rfl) (fun _ _ _ h => h) (Or.inl ⟨by kernel_rfl, ?hy8_107⟩) hS (by kernel_rfl) ?ha8_107 ?_
            case hy8_107 => intro w_ hS_; first | (go_simp; done) | (go_simp; with_reducible rfl)
            case ha8_107 => simp only [Act.put, List.setIfInBounds_toArray, List.set_cons_zero, List.set_cons_succ] <;> with_reducible rfl
            refine takeD (i := 9) (ac2 := ?aa9_108) (v := ?v9_108) (d := some 70) (ls2 := #[true, true, true, true, true, true, true, true, true, true, false, false, false, false, false, false, false, false, false, false, false, false, false, false]) rfl rfl (by kernel_rfl) (by kernel_rfl) (by kernel_rfl) (fun _ _ _ h => h) (Or.inl ⟨by kernel_rfl, ?hy9_108⟩) hS (by kernel_rfl) ?ha9_108 ?_
            case hy9_108 => intro w_ hS_; (replace hS_ : Below WX.heap.size WX w_ := hS_); have a0_ := below_cell hS_ HX1.out; first | (go_simp; done) | (go_simp; with_reducible rfl)
            case ha9_108 => simp only [Act.put, List.setIfInBounds_toArray, List.set_cons_zero, List.set_cons_succ] <;> with_reducible rfl
            refine takeD (i := 10) (ac2 := ?aa10_109) (v := ?v10_109) (d := some 71) (ls2 := #[true, true, true, true, true, true, true, true, true, true, true, false, false, false, false, false, false, false, false, false, false, false, false, false]) rfl rfl (by kernel_rfl) (by kernel_rfl) (by kernel_rfl) (fun _ _ _ h => h) (Or.inl ⟨by kernel_rfl, ?hy10_109⟩) hS (by kernel_rfl) ?ha10_109 ?_
            case hy10_109 => intro w_ hS_; first | (go_simp; done) | (go_simp; with_reducible rfl)
            case ha10_109 => simp only [Act.put, List.setIfInBounds_toArray, List.set_cons_zero, List.set_cons_succ] <;> with_reducible rfl
            refine takeD (i := 11) (ac2 := ?aa11_110) (v := ?v11_110) (d := some 72) (ls2 := #[true, true, true, true, true, true, true, true, true, true, true, true, false, false, false, false, false, false, false, false, false, false, false, false]) rfl rfl (by kernel_rfl) (by kernel_rfl) (by kernel_rfl) (fun _ _ _ h => h) (Or.inl ⟨by kernel_rfl, ?hy11_110⟩) hS (by kernel_rfl) ?ha11_110 ?_
            case hy11_110 => intro w_ hS_; first | (go_simp; done) | (go_simp; with_reducible rfl)
            case ha11_110 => simp only [Act.put, List.setIfInBounds_toArray, List.set_cons_zero, List.set_cons_succ] <;> with_reducible rfl
            refine takeD (i := 12) (ac2 := ?aa12_111) (v := ?v12_111) (d := some 73) (ls2 := #[true, true, true, true, true, true, true, true, true, true, true, true, true, false, false, false, false, false, false, false, false, false, false, false]) rfl rfl (by kernel_rfl) (by kernel_rfl) (by kernel_rfl) (fun _ _ _ h => h) (Or.inl ⟨by kernel_rfl, ?hy12_111⟩) hS (by kernel_rfl) ?ha12_111 ?_
            case hy12_111 => intro w_ hS_; first | (go_simp; done) | (go_simp; with_reducible rfl)
            case ha12_111 => simp only [Act.put, List.setIfInBounds_toArray, List.set_cons_zero, List.set_cons_succ] <;> with_reducible rfl
            refine takeD (i := 13) (ac2 := ?aa13_112) (v := ?v13_112) (d := some 74) (ls2 := #[true, true, true, true, true, true, true, true, true, true, true, true, true, true, false, false, false, false, false, false, false, false, false, false]) rfl rfl (by kernel_rfl) (by kernel_rfl) (by kernel_rfl) (fun _ _ _ h => h) (Or.inl ⟨by kernel_rfl, ?hy13_112⟩) hS (by kernel_rfl) ?ha13_112 ?_
            case hy13_112 => intro w_ hS_; first | (go_simp; done) | (go_simp; with_reducible rfl)
            case ha13_112 => simp only [Act.put, List.setIfInBounds_toArray, List.set_cons_zero, List.set_cons_succ] <;> with_reducible rfl
            refine takeD (i := 14) (ac2 := ?aa14_113) (v := ?v14_113) (d := some 75) (ls2 := #[true, true, true, true, true, true, true, true, true, true, true, true, true, true, true, false, false, false, false, false, false, false, false, false]) rfl rfl (by kernel_rfl) (by kernel_rfl) (by kernel_rfl) (fun _ _ _ h => h) (Or.inl ⟨by kernel_rfl, ?hy14_113⟩) hS (by kernel_rfl) ?ha14_113 ?_
            case hy14_113 => intro w_ hS_; first | (go_simp; done) | (go_simp; with_reducible rfl)
            case ha14_113 => simp only [Act.put, List.setIfInBounds_toArray, List.set_cons_zero, List.set_cons_succ] <;> with_reducible rfl
            refine takeD (i := 15) (ac2 := ?aa15_114) (v := ?v15_114) (d := some 76) (ls2 := #[true, true, true, true, true, true, true, true, true, true, true, true, true, true, true, true, false, false, false, false, false, false, false, false]) rfl rfl (by kernel_rfl) (by kernel_rfl) (by kernel_rfl) (fun _ _ _ h => h) (Or.inl ⟨by kernel_rfl, ?hy15_114⟩) hS (by kernel_rfl) ?ha15_114 ?_
            case hy15_114 => intro w_ hS_; first | (go_simp; done) | (go_simp; with_reducible rfl)
            case ha15_114 => simp only [Act.put, List.setIfInBounds_toArray, List.set_cons_zero, List.set_cons_succ] <;> with_reducible rfl
            refine takeD (i := 16) (ac2 := ?aa16_115) (v := ?v16_115) (d := some 77) (ls2 := #[true, true, true, true, true, true, true, true, true, true, true, true, true, true, true, true, true, false, false, false, false, false, false, false]) rfl rfl (by kernel_rfl) (by kernel_rfl) (by kernel_rfl) (fun _ _ _ h => h) (Or.inl ⟨by kernel_rfl, ?hy16_115⟩) hS (by kernel_rfl) ?ha16_115 ?_
            case hy16_115 => intro w_ hS_; (replace hS_ : Below WX.heap.size WX w_ := hS_); have a0_ := below_cell hS_ HY0.out; first | (go_simp; done) | (go_simp; with_reducible rfl)
            case ha16_115 => simp only [Act.put, List.setIfInBounds_toArray, List.set_cons_zero, List.set_cons_succ] <;> with_reducible rfl
            refine takeD (i := 17) (ac2 := ?aa17_116) (v := ?v17_116) (d := some 78) (ls2 := #[true, true, true, true, true, true, true, true, true, true, true, true, true, true, true, true, true, true, false, false, false, false, false, false]) rfl rfl (by kernel_rfl) (by kernel_rfl) (by kernel_rfl) (fun _ _ _ h => h) (Or.inl ⟨by kernel_rfl, ?hy17_116⟩) hS (by kernel_rfl) ?ha17_116 ?_
            case hy17_116 => intro w_ hS_; first | (go_simp; done) | (go_simp; with_reducible rfl)
            case ha17_116 => simp only [Act.put, List.setIfInBounds_toArray, List.set_cons_zero, List.set_cons_succ] <;> with_reducible rfl
            refine takeD (i := 18) (ac2 := ?aa18_117) (v := ?v18_117) (d := some 79) (ls2 := #[true, true, true, true, true, true, true, true, true, true, true, true, true, true, true, true, true, true, true, false, false, false, false, false]) rfl rfl (by kernel_rfl) (by kernel_rfl) (by kernel_rfl) (fun _ _ _ h => h) (Or.inl ⟨by kernel_rfl, ?hy18_117⟩) hS (by kernel_rfl) ?ha18_117 ?_
            case hy18_117 => intro w_ hS_; first | (go_simp; done) | (go_simp; with_reducible rfl)
            case ha18_117 => simp only [Act.put, List.setIfInBounds_toArray, List.set_cons_zero, List.set_cons_succ] <;> with_reducible rfl
            refine takeD (i := 19) (ac2 := ?aa19_118) (v := ?v19_118) (d := some 80) (ls2 := #[true, true, true, true, true, true, true, true, true, true, true, true, true, true, true, true, true, true, true, true, false, false, false, false]) rfl rfl (by kernel_rfl) (by kernel_rfl) (by kernel_rfl) (fun _ _ _ h => h) (Or.inl ⟨by kernel_rfl, ?hy19_118⟩) hS (by kernel_rfl) ?ha19_118 ?_
            case hy19_118 => intro w_ hS_; first | (go_simp; done) | (go_simp; with_reducible rfl)
            case ha19_118 => simp only [Act.put, List.setIfInBounds_toArray, List.set_cons_zero, List.set_cons_succ] <;> with_reducible rfl
            refine takeD (i := 20) (ac2 := ?aa20_119) (v := ?v20_119) (d := some 81) (ls2 := #[true, true, true, true, true, true, true, true, true, true, true, true, true, true, true, true, true, true, true, true, true, false, false, false]) rfl rfl (by kernel_rfl) (by kernel_rfl) (by kernel_rfl) (fun _ _ _ h => h) (Or.inl ⟨by kernel_rfl, ?hy20_119⟩) hS (by kernel_rfl) ?ha20_119 ?_
            case hy20_119 => intro w_ hS_; first | (go_simp; done) | (go_simp; with_reducible rfl)
            case ha20_119 => simp only [Act.put, List.setIfInBounds_toArray, List.set_cons_zero, List.set_cons_succ] <;> with_reducible rfl
            refine takeD (i := 21) (ac2 := ?aa21_120) (v := ?v21_120) (d := some 82) (ls2 := #[true, true, true, true, true, true, true, true, true, true, true, true, true, true, true, true, true, true, true, true, true, true, false, false]) rfl rfl (by kernel_rfl) (by kernel_rfl) (by kernel_rfl) (fun _ _ _ h => h) (Or.inl ⟨by kernel_rfl, ?hy21_120⟩) hS (by kernel_rfl) ?ha21_120 ?_
            case hy21_120 => intro w_ hS_; (replace hS_ : Below WX.heap.size WX w_ := hS_); have a0_ := below_cell hS_ HX0.out; first | (go_simp; done) | (go_simp; with_reducible rfl)
            case ha21_120 => simp only [Act.put, List.setIfInBounds_toArray, List.set_cons_zero, List.set_cons_succ] <;> with_reducible rfl
            refine takeD (i := 22) (ac2 := ?aa22_121) (v := ?v22_121) (d := some 83) (ls2 := #[true, true, true, true, true, true, true, true, true, true, true, true, true, true, true, true, true, true, true, true, true, true, true, false]) rfl rfl (by kernel_rfl) (by kernel_rfl) (by kernel_rfl) (fun _ _ _ h => h) (Or.inl ⟨by kernel_rfl, ?hy22_121⟩) hS (by kernel_rfl) ?ha22_121 ?_
            case hy22_121 => intro w_ hS_; first | (go_simp; done) | (go_simp; with_reducible rfl)
            case ha22_121 => simp only [Act.put, List.setIfInBounds_toArray, List.set_cons_zero, List.set_cons_succ] <;> with_reducible rfl
            refine takeD (i := 23) (ac2 := ?aa23_122) (v := ?v23_122) (d := some 84) (ls2 := #[true, true, true, true, true, true, true, true, true, true, true, true, true, true, true, true, true, true, true, true, true, true, true, true]) rfl rfl (by kernel_rfl) (by kernel_rfl) (by kernel_rfl) (fun _ _ _ h => h) (Or.inl ⟨by kernel_rfl, ?hy23_122⟩) hS (by kernel_rfl) ?ha23_122 ?_
            case hy23_122 => intro w_ hS_; first | (go_simp; done) | (go_simp; with_reducible rfl)
            case ha23_122 => simp only [Act.put, List.setIfInBounds_toArray, List.set_cons_zero, List.set_cons_succ] <;> with_reducible rfl
            refine wpAnyH_done (by kernel_rfl) ?_ _
            try go_simp
            go_wp2
            go_roundg gk
            case measure => omega
            case rel => exact ⟨k + 1, by first | rfl | (congr 1), by omega, by omega, HQ.out.trans (hS.mono HQ.out.size)⟩
end Go.Proofs.Ytgipepjpkmlmaaa.P
