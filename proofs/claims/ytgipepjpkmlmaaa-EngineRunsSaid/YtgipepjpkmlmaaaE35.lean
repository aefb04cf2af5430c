import Derived.Test.YtgipepjpkmlmaaaE34
import Derived.Test.YtgipepjpkmlmaaaE21
namespace Go.Proofs.Ytgipepjpkmlmaaa.P
open Go.RowKit Go.Proofs.YtgipepjpkmlmaaaW.PrintWords Go.Proofs.YtgipepjpkmlmaaaW.PrintLast Go.Proofs.YtgipepjpkmlmaaaW.PrintMore
set_option linter.unusedVariables false
set_option linter.unusedSimpArgs false

theorem runL_len4 (g : S23) : ∀ (l : List S50) (s : S28) (all : List S46), s.f4.length ≤ 1000 → (runL g l s all).1.f4.length ≤ 1000
  | [], s, all, h => h
  | r :: rs, s, all, h => by
    rw [runL]
    split
    · exact runL_len4 g rs _ _ (feedP_len (g := g) (s := s) (r := r) h).1
    · simp [z28]
theorem runP_len4 (g : S23) (l : List S50) (s : S28) (h : s.f4.length ≤ 1000) : (runP g s l).1.f4.length ≤ 1000 := by
  unfold runP
  split
  · exact runL_len4 g l s [] h
  · simp [z28]
/-- The reference's Run leaves what the engine's does. -/
theorem runRef_calls (g : S23) (l : List S50) (hll : l.length ≤ 1000) (B : Option Addr) (cl : Nat) (w : World) (hB : k50.C w B l.length l) (hcl : l.length ≤ cl) :
    Calls Try.prog 17 #[.agg #[.int .i64 g.f0, .int .i64 g.f1, .int .i64 g.f2], .agg #[.int .i64 (-1), .int .i64 0, .int .i64 0, .int .i64 0, .slice none 0 0], .slice B l.length cl] w (RunR w (runP g awZ l)) := by
  unfold runP
  cases hg : chkG g with
  | false =>
    have hc : checkP g awZ ≠ true := fun h => by have := checkP_grid h; rw [hg] at this; cases this
    rw [if_neg hc]
    exact runR_no g hg B l.length cl w
  | true =>
    rw [if_pos (inv_check (inv_zero hg))]
    exact runR_calls g l awZ (invR_zero hg) (by show (0 : Int) + (l.length : Int) ≤ 1000000; omega) none B 0 cl w (C_nil46 w none) (Nat.le_refl _) hB hcl hll (fun k h => by cases h)
theorem cell5r {w : World} {g t : Nat} {a0 a1 a2 a3 a4 : Value} (h : w.heap[g]? = some (.cells #[a0, a1, a2, a3, a4] t (0, 0))) :
    w.cell? ⟨g, 0, none⟩ = some a0 ∧ w.cell? ⟨g, 1, none⟩ = some a1 ∧ w.cell? ⟨g, 2, none⟩ = some a2 ∧ w.cell? ⟨g, 3, none⟩ = some a3 ∧ w.cell? ⟨g, 4, none⟩ = some a4 := cell5s h
set_option maxHeartbeats 16000000 in
set_option maxRecDepth 100000 in
theorem engineRuns_walk (g : S23) (A : Option Addr) (c : Nat) (l : List S50) (w : World) (hr : k50.C w A l.length l) (hc : l.length ≤ c) :
    Calls Try.prog 3 #[gridV g, .slice A l.length c] w fun e w' => e = .returned (.bool true) ∧ Below w.heap.size w w' := by
  have h16 := fun w => engine_Zero.calls (-1) 0 0 0 [] w rfl
  have H16 := Lib.hid h16
  obtain ⟨WB, hWB⟩ : ∃ W, W = w.alloc (.cells #[.int .i64 g.f0, .int .i64 g.f1, .int .i64 g.f2] 23) := ⟨_, rfl⟩
  have hgB : WB.heap[w.heap.size]? = some (.cells #[.int .i64 g.f0, .int .i64 g.f1, .int .i64 g.f2] 23 (0, 0)) := by rw [hWB]; exact heap_alloc_new _ _
  have hbB : Below w.heap.size w WB := by rw [hWB]; exact (Below.refl _ _).alloc (Nat.le_refl _) _
  have hsome := some_calls A c l WB (Kd.C_below hr hbB) hc
  obtain ⟨L, hL⟩ : ∃ L, someP l = L := ⟨_, rfl⟩
  have hLl := someP_length l
  have hLs := someP_size l
  rw [hL] at hsome hLl hLs
  have HSOME := Lib.hid hsome
  have HWB := Lib.hid hWB
  have HGB0 := Lib.hid hgB
  have HBB := Lib.hid hbB
  have HLS := Lib.hid hLs
  clear h16 hsome hWB hgB hbB hL hLs hr hc
  go_enter Try.func3, Try.ntmps3
  go_upto_region 2 with (first | (go_at_call 14; go_loud (rw [← HWB.out]; (with_reducible refine HSOME.out.mono ?_); rintro e WX ⟨v1, rfl, hR1, hb1⟩; obtain ⟨A1, c1, rfl, hc1, hL1⟩ := Kd.R_reads hR1; have HGX := Lib.hid (blk_below HGB0.out hb1); have HL1 := Lib.hid hL1; have HBX := Lib.hid (HBB.out.trans (hb1.mono HBB.out.size)); clear hR1 hL1 hb1)))
  have hrun : ∀ (W : World) (A : Option Addr) (c : Nat), (A = none → ([] : List S46) = [] ∧ c = 0) → k50.C W A1 L.length L → Calls Try.prog 15 #[.agg #[.int .i64 g.f0, .int .i64 g.f1, .int .i64 g.f2], .agg #[.int .i64 (-1), .int .i64 0, .int .i64 0, .int .i64 0, .slice A 0 c], .slice A1 L.length c1] W (FedP W (runP g awZ L)) :=
    fun W A c hn hB => run_calls g awZ L A A1 c c1 W (C_nil46 W A) (Nat.zero_le _) (by decide) hn hB hc1 (by omega) (fun r h => Nat.le_trans (HLS.out r h) (by omega))
  have hrunR := fun (W : World) (hB : k50.C W A1 L.length L) => runRef_calls g L (by omega) A1 c1 W hB hc1
  have hlen := run_len_p g L awZ (by decide)
  have hlen4 := runP_len4 g L awZ (by decide)
  obtain ⟨P, hP⟩ : ∃ P, runP g awZ L = P := ⟨_, rfl⟩
  rw [hP] at hrun hrunR hlen hlen4
  obtain ⟨⟨p0, p1, p2, p3, p4⟩, po, pe⟩ := P
  simp only at hlen hlen4
  have HRUN := Lib.hid hrun
  have HRUNR := Lib.hid hrunR
  have HLEN := Lib.hid hlen
  have HLEN4 := Lib.hid hlen4
  clear hrun hrunR hlen hlen4 hP
  go_cut [5, 6, 7] from 13 to 20 (fun v5 v6 v7 wc => RunRes WX wc (⟨p0, p1, p2, p3, p4⟩, po, pe) v5 v6 v7 ∧ Below WX.heap.size WX wc)
  case first =>
    refine wp_region_held_drew (S := fun w_ => Below WX.heap.size WX w_) (by kernel_rfl) (below_drew (Below.refl _ _)) (fun hS_ => ?_)
    have hS : Below WX.heap.size WX _ := hS_
    clear hS_
    change wpAnyH _ _ _ _ _ 12 #[false, false, false, false, false, false, false, false, false, false, false, false] _ _
    refine takeE 0 (some 14) #[true, false, false, false, false, false, false, false, false, false, false, false] hS ?_ (hy := fun w_ hS_ => by (replace hS_ : Below WX.heap.size WX w_ := hS_); have q_ := blk_below HGX.out hS_; have q0_ : w_.cell? ⟨w.heap.size, 0, none⟩ = some (.int .i64 g.f0) := (blk_cell q_ 0).trans rfl; have q1_ : w_.cell? ⟨w.heap.size, 1, none⟩ = some (.int .i64 g.f1) := (blk_cell q_ 1).trans rfl; have q2_ : w_.cell? ⟨w.heap.size, 2, none⟩ = some (.int .i64 g.f2) := (blk_cell q_ 2).trans rfl; go_simp <;> with_reducible rfl)
    refine takeE 2 (some 16) #[true, false, true, false, false, false, false, false, false, false, false, false] hS ?_
    refine doD2 (i := 1) (j := 8) (l2 := #[true, true, true, false, false, false, false, false, false, false, false, false]) (l3 := #[true, false, true, false, false, false, false, false, true, false, false, false]) (by kernel_rfl) rfl rfl (by kernel_rfl) (by kernel_rfl) (by kernel_rfl) (by kernel_rfl) (fun K hK => ?_) (fun K hK => ?_)
    · go_simp
      go_wp2_with (first | (go_at_call 16; go_loud ((with_reducible refine (H16.out _).mono ?_); rintro e wq1 ⟨vz, rfl, hRz, hb1⟩; obtain ⟨Az, cz, rfl, hcz, _⟩ := Kd.R_reads hRz; have HNZ := Lib.hid (R_nil26 hRz); clear hRz hcz)))
      refine hK.out _ _ ?_ (fun hS_ => ?_)
      · show Below WX.heap.size WX _
        exact hS.trans (hb1.mono hS.size)
      clear hK K hS
      have hS : Below WX.heap.size WX _ := hS_
      clear hS_
      clear hb1
      refine doD2 (i := 3) (j := 8) (l2 := #[true, true, true, true, false, false, false, false, false, false, false, false]) (l3 := #[true, true, true, false, false, false, false, false, true, false, false, false]) (by kernel_rfl) rfl rfl (by kernel_rfl) (by kernel_rfl) (by kernel_rfl) (by kernel_rfl) (fun K hK => ?_) (fun K hK => ?_)
      · go_simp
        go_wp2_with (first | (go_at_call 15; go_loud ((with_reducible refine (HRUN.out _ _ _ HNZ.out (Kd.C_below HL1.out hS)).mono ?_); have HSS := Lib.hid hS.size; rintro e wr ⟨v6, vo, rfl, hR6, hRo, hb6⟩; obtain ⟨A6, c6, rfl, hc6, _⟩ := Kd.R_reads hR6; obtain ⟨Ao, co, rfl, hco, _⟩ := Kd.R_reads hRo; have HR4 := Lib.hid (R_base hR6 HSS.out (Nat.le_refl _)); have HR6 := Lib.hid (R_base hRo HSS.out (Nat.le_refl _)); clear hR6 hRo hc6 hco)))
        refine hK.out _ _ ?_ (fun hS_ => ?_)
        · show Below WX.heap.size WX _
          exact hS.trans (hb6.mono hS.size)
        clear hK K hS
        have hS : Below WX.heap.size WX _ := hS_
        clear hS_
        clear hb6
        refine takeE 4 (some 13) #[true, true, true, true, true, false, false, false, false, false, false, false] hS ?_
        refine takeE 5 (some 18) #[true, true, true, true, true, true, false, false, false, false, false, false] hS ?_
        refine takeE 6 (some 19) #[true, true, true, true, true, true, true, false, false, false, false, false] hS ?_
        refine takeE 7 (some 20) #[true, true, true, true, true, true, true, true, false, false, false, false] hS ?_
        have hSr := Lib.hid hS
        refine doD (i := 8) (ls2 := #[true, true, true, true, true, true, true, true, true, false, false, false]) (by kernel_rfl) rfl (by kernel_rfl) (by kernel_rfl) (fun K hK => ?_)
        go_simp
        refine hK.out _ _ ?_ (fun hS_ => ?_)
        · show Below WX.heap.size WX _
          exact hS.alloc hS.size _
        clear hK K hS
        have hS : Below WX.heap.size WX _ := hS_
        clear hS_
        refine doD (i := 9) (ls2 := #[true, true, true, true, true, true, true, true, true, true, false, false]) (by kernel_rfl) rfl (by kernel_rfl) (by kernel_rfl) (fun K hK => ?_)
        go_simp
        refine hK.out _ _ ?_ (fun hS_ => ?_)
        · show Below WX.heap.size WX _
          exact (hSr.out).alloc hSr.out.size _
        clear hK K hS
        have hS : Below WX.heap.size WX _ := hS_
        clear hS_
        refine takeE 10 (some 6) #[true, true, true, true, true, true, true, true, true, true, true, false] hS ?_
        refine takeE 11 (some 7) #[true, true, true, true, true, true, true, true, true, true, true, true] hS ?_
        refine wpAnyH_done (by kernel_rfl) ?_ _
        go_wp2
        go_meet
        case rel =>
          have h4 := R_ok (ok2 := fun _ => True) (Kd.R_below HR4.out ((Below.refl _ _).alloc (Nat.le_refl _) (.cells #[.int .i64 p0, .int .i64 p1, .int .i64 p2, .int .i64 p3, .slice A6 p4.length c6] 28))) (fun _ _ => trivial)
          have h6 := R_ok (ok2 := fun _ => True) (Kd.R_below HR6.out ((Below.refl _ _).alloc (Nat.le_refl _) (.cells #[.int .i64 p0, .int .i64 p1, .int .i64 p2, .int .i64 p3, .slice A6 p4.length c6] 28))) (fun _ _ => trivial)
          exact ⟨⟨rfl, ⟨_, A6, c6, rfl, heap_alloc_new _ _, h4⟩, ⟨_, _, rfl, h6⟩⟩, hS⟩
      · have hgbl := Lib.hid hS.size
        go_simp
        refine hK.out _ _ ?_ (fun hS_ => ?_)
        · show Below WX.heap.size WX _
          exact hS.alloc hS.size _
        clear hK K hS
        have hS : Below WX.heap.size WX _ := hS_
        clear hS_
        have HGB := hgbl
        clear hgbl
        refine doD (i := 3) (ls2 := #[true, true, true, true, false, false, false, false, true, false, false, false]) (by kernel_rfl) rfl (by kernel_rfl) (by kernel_rfl) (fun K hK => ?_)
        go_simp
        go_wp2_with (first | (go_at_call 15; go_loud ((with_reducible refine (HRUN.out _ _ _ HNZ.out (Kd.C_below HL1.out hS)).mono ?_); have hz0 := heap_alloc_new wq1 (.cells #[.int .i64 0, .int .i64 0, .int .i64 0, .int .i64 0, .slice none 0 0] 28); have HZ := Lib.hid hz0; clear hz0; have HSS := Lib.hid hS.size; rintro e wr ⟨v6, vo, rfl, hR6, hRo, hb6⟩; obtain ⟨A6, c6, rfl, hc6, _⟩ := Kd.R_reads hR6; obtain ⟨Ao, co, rfl, hco, _⟩ := Kd.R_reads hRo; have HR4 := Lib.hid (R_base hR6 HSS.out (Nat.le_refl _)); have HR6 := Lib.hid (R_base hRo HSS.out (Nat.le_refl _)); have HZL := Lib.hid (lt_of_block HZ.out); have hz6 := blk_below HZ.out hb6; have z0_ : wr.cell? ⟨_, 0, none⟩ = some (.int .i64 0) := (blk_cell hz6 0).trans rfl; have z1_ : wr.cell? ⟨_, 1, none⟩ = some (.int .i64 0) := (blk_cell hz6 1).trans rfl; have z2_ : wr.cell? ⟨_, 2, none⟩ = some (.int .i64 0) := (blk_cell hz6 2).trans rfl; have z3_ : wr.cell? ⟨_, 3, none⟩ = some (.int .i64 0) := (blk_cell hz6 3).trans rfl; have z4_ : wr.cell? ⟨_, 4, none⟩ = some (.slice none 0 0) := (blk_cell hz6 4).trans rfl; have y0_ : wr.frozen? ⟨_, 0, none⟩ = false := blk_frozen hz6 0; have y1_ : wr.frozen? ⟨_, 1, none⟩ = false := blk_frozen hz6 1; have y2_ : wr.frozen? ⟨_, 2, none⟩ = false := blk_frozen hz6 2; have y3_ : wr.frozen? ⟨_, 3, none⟩ = false := blk_frozen hz6 3; have y4_ : wr.frozen? ⟨_, 4, none⟩ = false := blk_frozen hz6 4; replace HZ := Lib.hid hz6; clear hz6; clear hR6 hRo hc6 hco)))
        refine hK.out _ _ ?_ (fun hS_ => ?_)
        · show Below WX.heap.size WX _
          exact hS.trans (hb6.mono hS.size)
        clear hK K hS
        have hS : Below WX.heap.size WX _ := hS_
        clear hS_
        clear hb6
        refine takeE 4 (some 13) #[true, true, true, true, true, false, false, false, true, false, false, false] hS ?_
        refine takeE 5 (some 18) #[true, true, true, true, true, true, false, false, true, false, false, false] hS ?_
        refine takeE 6 (some 19) #[true, true, true, true, true, true, true, false, true, false, false, false] hS ?_
        refine takeE 7 (some 20) #[true, true, true, true, true, true, true, true, true, false, false, false] hS ?_
        refine doD (i := 9) (ls2 := #[true, true, true, true, true, true, true, true, true, true, false, false]) (by kernel_rfl) rfl (by kernel_rfl) (by kernel_rfl) (fun K hK => ?_)
        go_simp
        refine hK.out _ _ ?_ (fun hS_ => ?_)
        · show Below WX.heap.size WX _
          exact put5_belowZ hS HZ.out (by have h0 := HGB.out; first | omega | (simp at h0; omega)) (.int .i64 p0) (.int .i64 p1) (.int .i64 p2) (.int .i64 p3) (.slice A6 p4.length c6)
        clear hK K hS
        have hS : Below WX.heap.size WX _ := hS_
        clear hS_
        refine takeE 10 (some 6) #[true, true, true, true, true, true, true, true, true, true, true, false] hS ?_
        refine takeE 11 (some 7) #[true, true, true, true, true, true, true, true, true, true, true, true] hS ?_
        refine wpAnyH_done (by kernel_rfl) ?_ _
        go_wp2
        go_meet
        case rel =>
          have h4 := R_ok (ok2 := fun _ => True) (R_other HR4.out (fun k hk => put5_otherZ HZ.out (by have := HZL.out; omega) (.int .i64 p0) (.int .i64 p1) (.int .i64 p2) (.int .i64 p3) (.slice A6 p4.length c6))) (fun _ _ => trivial)
          have h6 := R_ok (ok2 := fun _ => True) (R_other HR6.out (fun k hk => put5_otherZ HZ.out (by have := HZL.out; omega) (.int .i64 p0) (.int .i64 p1) (.int .i64 p2) (.int .i64 p3) (.slice A6 p4.length c6))) (fun _ _ => trivial)
          exact ⟨⟨rfl, ⟨_, A6, c6, rfl, put5_heap HZ.out (.int .i64 p0) (.int .i64 p1) (.int .i64 p2) (.int .i64 p3) (.slice A6 p4.length c6), h4⟩, ⟨_, _, rfl, h6⟩⟩, hS⟩
    · have hgbl := Lib.hid hS.size
      go_simp
      refine hK.out _ _ ?_ (fun hS_ => ?_)
      · show Below WX.heap.size WX _
        exact hS.alloc hS.size _
      clear hK K hS
      have hS : Below WX.heap.size WX _ := hS_
      clear hS_
      have HGB := hgbl
      clear hgbl
      refine doD (i := 1) (ls2 := #[true, true, true, false, false, false, false, false, true, false, false, false]) (by kernel_rfl) rfl (by kernel_rfl) (by kernel_rfl) (fun K hK => ?_)
      go_simp
      go_wp2_with (first | (go_at_call 16; go_loud ((with_reducible refine (H16.out _).mono ?_); rintro e wq1 ⟨vz, rfl, hRz, hb1⟩; obtain ⟨Az, cz, rfl, hcz, _⟩ := Kd.R_reads hRz; have HNZ := Lib.hid (R_nil26 hRz); have hz1 := blk_below (blk_drew (heap_alloc_new _ _)) hb1; have HZ := Lib.hid hz1; clear hz1; clear hRz hcz)))
      refine hK.out _ _ ?_ (fun hS_ => ?_)
      · show Below WX.heap.size WX _
        exact hS.trans (hb1.mono hS.size)
      clear hK K hS
      have hS : Below WX.heap.size WX _ := hS_
      clear hS_
      clear hb1
      refine doD (i := 3) (ls2 := #[true, true, true, true, false, false, false, false, true, false, false, false]) (by kernel_rfl) rfl (by kernel_rfl) (by kernel_rfl) (fun K hK => ?_)
      go_simp
      go_wp2_with (first | (go_at_call 15; go_loud ((with_reducible refine (HRUN.out _ _ _ HNZ.out (Kd.C_below HL1.out hS)).mono ?_); have HSS := Lib.hid hS.size; rintro e wr ⟨v6, vo, rfl, hR6, hRo, hb6⟩; obtain ⟨A6, c6, rfl, hc6, _⟩ := Kd.R_reads hR6; obtain ⟨Ao, co, rfl, hco, _⟩ := Kd.R_reads hRo; have HR4 := Lib.hid (R_base hR6 HSS.out (Nat.le_refl _)); have HR6 := Lib.hid (R_base hRo HSS.out (Nat.le_refl _)); have HZL := Lib.hid (lt_of_block HZ.out); have hz6 := blk_below HZ.out hb6; have z0_ : wr.cell? ⟨_, 0, none⟩ = some (.int .i64 0) := (blk_cell hz6 0).trans rfl; have z1_ : wr.cell? ⟨_, 1, none⟩ = some (.int .i64 0) := (blk_cell hz6 1).trans rfl; have z2_ : wr.cell? ⟨_, 2, none⟩ = some (.int .i64 0) := (blk_cell hz6 2).trans rfl; have z3_ : wr.cell? ⟨_, 3, none⟩ = some (.int .i64 0) := (blk_cell hz6 3).trans rfl; have z4_ : wr.cell? ⟨_, 4, none⟩ = some (.slice none 0 0) := (blk_cell hz6 4).trans rfl; have y0_ : wr.frozen? ⟨_, 0, none⟩ = false := blk_frozen hz6 0; have y1_ : wr.frozen? ⟨_, 1, none⟩ = false := blk_frozen hz6 1; have y2_ : wr.frozen? ⟨_, 2, none⟩ = false := blk_frozen hz6 2; have y3_ : wr.frozen? ⟨_, 3, none⟩ = false := blk_frozen hz6 3; have y4_ : wr.frozen? ⟨_, 4, none⟩ = false := blk_frozen hz6 4; replace HZ := Lib.hid hz6; clear hz6; clear hR6 hRo hc6 hco)))
      refine hK.out _ _ ?_ (fun hS_ => ?_)
      · show Below WX.heap.size WX _
        exact hS.trans (hb6.mono hS.size)
      clear hK K hS
      have hS : Below WX.heap.size WX _ := hS_
      clear hS_
      clear hb6
      refine takeE 4 (some 13) #[true, true, true, true, true, false, false, false, true, false, false, false] hS ?_
      refine takeE 5 (some 18) #[true, true, true, true, true, true, false, false, true, false, false, false] hS ?_
      refine takeE 6 (some 19) #[true, true, true, true, true, true, true, false, true, false, false, false] hS ?_
      refine takeE 7 (some 20) #[true, true, true, true, true, true, true, true, true, false, false, false] hS ?_
      refine doD (i := 9) (ls2 := #[true, true, true, true, true, true, true, true, true, true, false, false]) (by kernel_rfl) rfl (by kernel_rfl) (by kernel_rfl) (fun K hK => ?_)
      go_simp
      refine hK.out _ _ ?_ (fun hS_ => ?_)
      · show Below WX.heap.size WX _
        exact put5_belowZ hS HZ.out (by have h0 := HGB.out; first | omega | (simp at h0; omega)) (.int .i64 p0) (.int .i64 p1) (.int .i64 p2) (.int .i64 p3) (.slice A6 p4.length c6)
      clear hK K hS
      have hS : Below WX.heap.size WX _ := hS_
      clear hS_
      refine takeE 10 (some 6) #[true, true, true, true, true, true, true, true, true, true, true, false] hS ?_
      refine takeE 11 (some 7) #[true, true, true, true, true, true, true, true, true, true, true, true] hS ?_
      refine wpAnyH_done (by kernel_rfl) ?_ _
      go_wp2
      go_meet
      case rel =>
        have h4 := R_ok (ok2 := fun _ => True) (R_other HR4.out (fun k hk => put5_otherZ HZ.out (by have := HZL.out; omega) (.int .i64 p0) (.int .i64 p1) (.int .i64 p2) (.int .i64 p3) (.slice A6 p4.length c6))) (fun _ _ => trivial)
        have h6 := R_ok (ok2 := fun _ => True) (R_other HR6.out (fun k hk => put5_otherZ HZ.out (by have := HZL.out; omega) (.int .i64 p0) (.int .i64 p1) (.int .i64 p2) (.int .i64 p3) (.slice A6 p4.length c6))) (fun _ _ => trivial)
        exact ⟨⟨rfl, ⟨_, A6, c6, rfl, put5_heap HZ.out (.int .i64 p0) (.int .i64 p1) (.int .i64 p2) (.int .i64 p3) (.slice A6 p4.length c6), h4⟩, ⟨_, _, rfl, h6⟩⟩, hS⟩
  case rest =>
    obtain ⟨⟨e0, ⟨gb, A6, c6, rfl, hbox, hR4⟩, ⟨Ao, co, rfl, hRo⟩⟩, hbw⟩ := hcut
    subst e0
    simp only at hbox hR4 hRo
    have HBY := Lib.hid (HBX.out.trans (hbw.mono HBX.out.size))
    have hgy := blk_below HGX.out hbw
    have HLY := Lib.hid (Kd.C_below HL1.out hbw)
    have HBP := Lib.hid hbox
    have HP4 := Lib.hid (Kd.R_reads' hR4)
    have HPO := Lib.hid (Kd.R_reads' hRo)
    obtain ⟨q0, q1, q2⟩ := cell3s hgy
    clear hbox hR4 hRo hbw HRUN HBB HGB0 HWB HSOME HBX HGX HL1 hgy
    go_upto_region 3 with fail
    go_cut [8, 9, 10] from 21 to 28 (fun v8 v9 v10 wd => v10 = .int .i64 pe ∧ (∃ gt A8 c8, v8 = .pointer (some ⟨gt, 0, none⟩) ∧ wd.heap[gt]? = some (.cells #[.int .i64 p0, .int .i64 p1, .int .i64 p2, .int .i64 p3, .slice A8 p4.length c8] 28 (0, 0)) ∧ p4.length ≤ c8 ∧ k46.C wd A8 p4.length p4) ∧ (∃ Ar cr, v9 = .slice Ar po.length cr ∧ po.length ≤ cr ∧ k46.C wd Ar po.length po) ∧ Below wc.heap.size wc wd)
    case first =>
      go_wp2_with (first | (go_at_call 17; go_loud ((with_reducible refine (HRUNR.out _ HLY.out).mono ?_); rintro e wr ⟨v6, vo, rfl, ⟨A8, c8, rfl, hc8, hC8⟩, hRo, hb6⟩; obtain ⟨Ar, cr, rfl, hcr, hCr⟩ := Kd.R_reads hRo; have HC8 := Lib.hid hC8; have HCr := Lib.hid hCr; have HB6 := Lib.hid hb6; clear hRo hb6 hC8 hCr)))
      go_meet
      case rel =>
        have hba := (Below.refl wr.heap.size wr).alloc (Nat.le_refl _) (.cells #[.int .i64 p0, .int .i64 p1, .int .i64 p2, .int .i64 p3, .slice A8 p4.length c8] 28)
        exact ⟨rfl, ⟨_, A8, c8, rfl, heap_alloc_new _ _, hc8, Kd.C_below HC8.out hba⟩, ⟨Ar, cr, rfl, hcr, Kd.C_below HCr.out hba⟩, HB6.out.trans (hba.mono HB6.out.size)⟩
    case rest =>
      obtain ⟨rfl, ⟨gt, A8, c8, rfl, hgt, hc8, hC8⟩, ⟨Ar, cr, rfl, hcr, hCr⟩, hbw⟩ := hcut
      have hpc := blk_below HBP.out hbw
      obtain ⟨b0, b1, b2, b3, b4⟩ := cell5s hpc
      obtain ⟨r0, r1, r2, r3, r4⟩ := cell5s hgt
      have hl4 := HLEN4.out
      have hlo := HLEN.out
      have HBE := Lib.hid (HBY.out.trans (hbw.mono HBY.out.size))
      have HSAME := Lib.hid (headgateref16_Same.calls (p4.length + 1) p0 p1 p2 p3 A6 c6 p4 p0 p1 p2 p3 A8 c8 p4 true wc (Kd.C_below HP4.out.2.2 hbw) HP4.out.2.1 hC8 hc8 (same_state ⟨p0, p1, p2, p3, p4⟩ (by simp only; omega)))
      have hPB := Kd.C_below HPO.out.2.2 hbw
      have hsc : ∀ W, Below wc.heap.size wc W → Calls Try.prog 19 #[.slice Ao po.length co, .slice Ar po.length cr] W fun e w' => e = .returned (.bool true) ∧ Drawn0 W w' := fun W h => sameCells_calls po (by omega) Ao Ar co cr W (Kd.C_below hPB h) HPO.out.2.1 (Kd.C_below hCr h) hcr
      have HSC := Lib.hid hsc
      have hee : (pe == pe) = true := beq_self_eq_true pe
      clear hpc hgt hC8 hCr hbw hPB hsc hl4 hlo q0 q1 q2
      go_wp2_with (first | (go_at_call 18; go_loud ((with_reducible refine HSAME.out.mono ?_); rintro e w1 ⟨rfl, hb1⟩; have HW1 := Lib.hid hb1; clear hb1)) | (go_at_call 19; go_loud ((with_reducible refine (HSC.out _ HW1.out).mono ?_); rintro e w2 ⟨rfl, hd2⟩; have HW2 := Lib.hid (HW1.out.trans (hd2.below.mono HW1.out.size)); clear hd2)) | (go_at_call 20; go_loud ((with_reducible refine (awake_calls _).mono ?_); rintro e w9 ⟨rfl, hb9⟩; have HW9 := Lib.hid (HW2.out.trans (hb9.mono HW2.out.size)); clear hb9)))
      go_ret
      exact ⟨rfl, HBE.out.trans (HW9.out.mono HBE.out.size)⟩
end Go.Proofs.Ytgipepjpkmlmaaa.P
