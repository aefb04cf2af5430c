import Derived.Test.YtgipepjpkmlmaaaE20
import Derived.Test.YtgipepjpkmlmaaaE21
import Derived.Test.YtgipepjpkmlmaaaE9
namespace Go.Proofs.Ytgipepjpkmlmaaa.P
open Go.RowKit Go.Proofs.YtgipepjpkmlmaaaW.PrintWords Go.Proofs.YtgipepjpkmlmaaaW.PrintLast Go.Proofs.YtgipepjpkmlmaaaW.PrintMore
set_option linter.unusedVariables false
set_option linter.unusedSimpArgs false

theorem any_step (p : Int → Bool) (l : List Int) (i : Nat) (h : i < l.length) : (l.take (i + 1)).any p = ((l.take i).any p || p l[i]) := by
  rw [List.take_succ_eq_append_getElem h, List.any_append]
  simp
set_option maxHeartbeats 16000000 in
set_option maxRecDepth 100000 in
theorem engineLate_walk (g : S23) (A : Option Addr) (c : Nat) (l : List S50) (r : S50) (w : World) (hr : k50.C w A l.length l) (hc : l.length ≤ c) :
    Calls Try.prog 8 #[gridV g, .slice A l.length c, .agg #[.int .i64 r.f0, .int .i64 r.f1, .string r.f2]] w fun e w' => e = .returned (.bool true) ∧ Below w.heap.size w w' := by
  have h16 := fun w => engine_Zero.calls (-1) 0 0 0 [] w rfl
  have H16 := Lib.hid h16
  obtain ⟨WB, hWB⟩ : ∃ W, W = (w.alloc (.cells #[.int .i64 g.f0, .int .i64 g.f1, .int .i64 g.f2] 23)).alloc (.cells #[.int .i64 r.f0, .int .i64 r.f1, .string r.f2] 50) := ⟨_, rfl⟩
  have hgB : WB.heap[w.heap.size]? = some (.cells #[.int .i64 g.f0, .int .i64 g.f1, .int .i64 g.f2] 23 (0, 0)) := by
    rw [hWB, Below.heap_alloc _ _ _ (by simp)]
    exact heap_alloc_new _ _
  have hrB : WB.heap[w.heap.size + 1]? = some (.cells #[.int .i64 r.f0, .int .i64 r.f1, .string r.f2] 50 (0, 0)) := by
    have h := heap_alloc_new (w.alloc (.cells #[.int .i64 g.f0, .int .i64 g.f1, .int .i64 g.f2] 23)) (.cells #[.int .i64 r.f0, .int .i64 r.f1, .string r.f2] 50)
    rw [hWB]
    simpa using h
  have hbB : Below w.heap.size w WB := by rw [hWB]; exact ((Below.refl _ _).alloc (Nat.le_refl _) _).alloc (by simp) _
  have hsome := some_calls A c l WB (Kd.C_below hr hbB) hc
  obtain ⟨L, hL⟩ : ∃ L, someP l = L := ⟨_, rfl⟩
  have hLl := someP_length l
  have hLs := someP_size l
  rw [hL] at hsome hLl hLs
  have HSOME := Lib.hid hsome
  have HWB := Lib.hid hWB
  have HGB0 := Lib.hid hgB
  have HRB0 := Lib.hid hrB
  have HBB := Lib.hid hbB
  have HLS := Lib.hid hLs
  clear h16 hsome hWB hgB hrB hbB hL hLs hr hc
  go_enter Try.func8, Try.ntmps8
  go_upto_region 2 with (first | (go_at_call 14; go_loud (rw [← HWB.out]; (with_reducible refine HSOME.out.mono ?_); rintro e WX ⟨v1, rfl, hR1, hb1⟩; obtain ⟨A1, c1, rfl, hc1, hL1⟩ := Kd.R_reads hR1; have HGX := Lib.hid (blk_below HGB0.out hb1); have HRX := Lib.hid (blk_below HRB0.out hb1); have HL1 := Lib.hid hL1; have HBX := Lib.hid (HBB.out.trans (hb1.mono HBB.out.size)); clear hR1 hL1 hb1)))
  have hrun : ∀ (W : World) (A : Option Addr) (c : Nat), (A = none → ([] : List S46) = [] ∧ c = 0) → k50.C W A1 L.length L → Calls Try.prog 15 #[.agg #[.int .i64 g.f0, .int .i64 g.f1, .int .i64 g.f2], .agg #[.int .i64 (-1), .int .i64 0, .int .i64 0, .int .i64 0, .slice A 0 c], .slice A1 L.length c1] W (FedP W (runP g awZ L)) :=
    fun W A c hn hB => run_calls g awZ L A A1 c c1 W (C_nil46 W A) (Nat.zero_le _) (by decide) hn hB hc1 (by omega) (fun r h => Nat.le_trans (HLS.out r h) (by omega))
  have hinv : (runP g awZ L).2.2 = 0 → Inv g (runP g awZ L).1 ∧ (runP g awZ L).1.f3 < 1000000 := run_inv g L (by omega)
  obtain ⟨P, hP⟩ : ∃ P, runP g awZ L = P := ⟨_, rfl⟩
  rw [hP] at hrun hinv
  obtain ⟨⟨p0, p1, p2, p3, p4⟩, po, pe⟩ := P
  simp only at hinv
  have HRUN := Lib.hid hrun
  have HINV := Lib.hid hinv
  clear hrun hinv hP
  go_cut [7, 8, 9] from 22 to 29 (fun v5 v6 v7 wc => RunRes WX wc (⟨p0, p1, p2, p3, p4⟩, po, pe) v5 v6 v7 ∧ Below WX.heap.size WX wc)
  case first =>
    refine wp_region_held_drew (S := fun w_ => Below WX.heap.size WX w_) (by kernel_rfl) (below_drew (Below.refl _ _)) (fun hS_ => ?_)
    have hS : Below WX.heap.size WX _ := hS_
    clear hS_
    change wpAnyH _ _ _ _ _ 12 #[false, false, false, false, false, false, false, false, false, false, false, false] _ _
    refine takeE 0 (some 23) #[true, false, false, false, false, false, false, false, false, false, false, false] hS ?_ (hy := fun w_ hS_ => by (replace hS_ : Below WX.heap.size WX w_ := hS_); have q_ := blk_below HGX.out hS_; have q0_ : w_.cell? ⟨w.heap.size, 0, none⟩ = some (.int .i64 g.f0) := (blk_cell q_ 0).trans rfl; have q1_ : w_.cell? ⟨w.heap.size, 1, none⟩ = some (.int .i64 g.f1) := (blk_cell q_ 1).trans rfl; have q2_ : w_.cell? ⟨w.heap.size, 2, none⟩ = some (.int .i64 g.f2) := (blk_cell q_ 2).trans rfl; go_simp <;> with_reducible rfl)
    refine takeE 2 (some 25) #[true, false, true, false, false, false, false, false, false, false, false, false] hS ?_
    refine doD2 (i := 1) (j := 8) (l2 := #[true, true, true, false, false, false, false, false, false, false, false, false]) (l3 := #[true, false, true, false, false, false, false, false, true, false, false, false]) (by kernel_rfl) rfl rfl (by kernel_rfl) (by kernel_rfl) (by kernel_rfl) (by kernel_rfl) (fun K hK => ?_) (fun K hK => ?_)
    · go_simp
      go_wp2_with (first | (go_at_call 16; go_loud ((with_reducible refine (H16.out _).mono ?_); rintro e wq1 ⟨vz, rfl, hRz, hb1⟩; obtain ⟨Az, cz, rfl, hcz, _⟩ := Kd.R_reads hRz; have HNZ := Lib.hid (R_nil26 hRz); clear hRz hcz)))
      refine hK.out _ _ ?_ (fun hS_ => ?_)
      · show Below WX.heap.size WX _
        exact hS.trans (hb1.mono hS.size)
      clear hK K hS
      have hS : Below WX.heap.size WX _ := hS_
      clear hS_
      clear hb1
      refine doD2 (i := 3) (j := 8) (l2 := #[true, true, true, true, false, false, false, false, false, false, false, false]) (l3 := #[true, true, true, false, false, false, false, false, true, false, false, false]) (by kernel_rfl) rfl rfl (by kernel_rfl) (by kernel_rfl) (by kernel_rfl) (by kernel_rfl) (fun K hK => ?_) (fun K hK => ?_)
      · go_simp
        go_wp2_with (first | (go_at_call 15; go_loud ((with_reducible refine (HRUN.out _ _ _ HNZ.out (Kd.C_below HL1.out hS)).mono ?_); have HSS := Lib.hid hS.size; rintro e wr ⟨v6, vo, rfl, hR6, hRo, hb6⟩; obtain ⟨A6, c6, rfl, hc6, _⟩ := Kd.R_reads hR6; obtain ⟨Ao, co, rfl, hco, _⟩ := Kd.R_reads hRo; have HR4 := Lib.hid (R_base hR6 HSS.out (Nat.le_refl _)); have HR6 := Lib.hid (R_base hRo HSS.out (Nat.le_refl _)); clear hR6 hRo)))
        refine hK.out _ _ ?_ (fun hS_ => ?_)
        · show Below WX.heap.size WX _
          exact hS.trans (hb6.mono hS.size)
        clear hK K hS
        have hS : Below WX.heap.size WX _ := hS_
        clear hS_
        clear hb6
        refine takeE 4 (some 22) #[true, true, true, true, true, false, false, false, false, false, false, false] hS ?_
        refine takeE 5 (some 27) #[true, true, true, true, true, true, false, false, false, false, false, false] hS ?_
        refine takeE 6 (some 28) #[true, true, true, true, true, true, true, false, false, false, false, false] hS ?_
        refine takeE 7 (some 29) #[true, true, true, true, true, true, true, true, false, false, false, false] hS ?_
        have hSr := Lib.hid hS
        refine doD (i := 8) (ls2 := #[true, true, true, true, true, true, true, true, true, false, false, false]) (by kernel_rfl) rfl (by kernel_rfl) (by kernel_rfl) (fun K hK => ?_)
        go_simp
        refine hK.out _ _ ?_ (fun hS_ => ?_)
        · show Below WX.heap.size WX _
          exact hS.alloc hS.size _
        clear hK K hS
        have hS : Below WX.heap.size WX _ := hS_
        clear hS_
        refine doD (i := 9) (ls2 := #[true, true, true, true, true, true, true, true, true, true, false, false]) (by kernel_rfl) rfl (by kernel_rfl) (by kernel_rfl) (fun K hK => ?_)
        go_simp
        refine hK.out _ _ ?_ (fun hS_ => ?_)
        · show Below WX.heap.size WX _
          exact (hSr.out).alloc hSr.out.size _
        clear hK K hS
        have hS : Below WX.heap.size WX _ := hS_
        clear hS_
        refine takeE 10 (some 8) #[true, true, true, true, true, true, true, true, true, true, true, false] hS ?_
        refine takeE 11 (some 9) #[true, true, true, true, true, true, true, true, true, true, true, true] hS ?_
        refine wpAnyH_done (by kernel_rfl) ?_ _
        go_wp2
        go_meet
        case rel =>
          have h4 := R_ok (ok2 := fun _ => True) (Kd.R_below HR4.out ((Below.refl _ _).alloc (Nat.le_refl _) (.cells #[.int .i64 p0, .int .i64 p1, .int .i64 p2, .int .i64 p3, .slice A6 p4.length c6] 28))) (fun _ _ => trivial)
          have h6 := R_ok (ok2 := fun _ => True) (Kd.R_below HR6.out ((Below.refl _ _).alloc (Nat.le_refl _) (.cells #[.int .i64 p0, .int .i64 p1, .int .i64 p2, .int .i64 p3, .slice A6 p4.length c6] 28))) (fun _ _ => trivial)
          exact ⟨⟨rfl, ⟨_, A6, c6, rfl, heap_alloc_new _ _, h4⟩, ⟨_, _, rfl, h6⟩⟩, hS⟩
      · have hgbl := Lib.hid hS.size
        go_simp
        refine hK.out _ _ ?_ (fun hS_ => ?_)
        · show Below WX.heap.size WX _
          exact hS.alloc hS.size _
        clear hK K hS
        have hS : Below WX.heap.size WX _ := hS_
        clear hS_
        have HGB := hgbl
        clear hgbl
        refine doD (i := 3) (ls2 := #[true, true, true, true, false, false, false, false, true, false, false, false]) (by kernel_rfl) rfl (by kernel_rfl) (by kernel_rfl) (fun K hK => ?_)
        go_simp
        go_wp2_with (first | (go_at_call 15; go_loud ((with_reducible refine (HRUN.out _ _ _ HNZ.out (Kd.C_below HL1.out hS)).mono ?_); have hz0 := heap_alloc_new wq1 (.cells #[.int .i64 0, .int .i64 0, .int .i64 0, .int .i64 0, .slice none 0 0] 28); have HZ := Lib.hid hz0; clear hz0; have HSS := Lib.hid hS.size; rintro e wr ⟨v6, vo, rfl, hR6, hRo, hb6⟩; obtain ⟨A6, c6, rfl, hc6, _⟩ := Kd.R_reads hR6; obtain ⟨Ao, co, rfl, hco, _⟩ := Kd.R_reads hRo; have HR4 := Lib.hid (R_base hR6 HSS.out (Nat.le_refl _)); have HR6 := Lib.hid (R_base hRo HSS.out (Nat.le_refl _)); have HZL := Lib.hid (lt_of_block HZ.out); have hz6 := blk_below HZ.out hb6; have z0_ : wr.cell? ⟨_, 0, none⟩ = some (.int .i64 0) := (blk_cell hz6 0).trans rfl; have z1_ : wr.cell? ⟨_, 1, none⟩ = some (.int .i64 0) := (blk_cell hz6 1).trans rfl; have z2_ : wr.cell? ⟨_, 2, none⟩ = some (.int .i64 0) := (blk_cell hz6 2).trans rfl; have z3_ : wr.cell? ⟨_, 3, none⟩ = some (.int .i64 0) := (blk_cell hz6 3).trans rfl; have z4_ : wr.cell? ⟨_, 4, none⟩ = some (.slice none 0 0) := (blk_cell hz6 4).trans rfl; have y0_ : wr.frozen? ⟨_, 0, none⟩ = false := blk_frozen hz6 0; have y1_ : wr.frozen? ⟨_, 1, none⟩ = false := blk_frozen hz6 1; have y2_ : wr.frozen? ⟨_, 2, none⟩ = false := blk_frozen hz6 2; have y3_ : wr.frozen? ⟨_, 3, none⟩ = false := blk_frozen hz6 3; have y4_ : wr.frozen? ⟨_, 4, none⟩ = false := blk_frozen hz6 4; replace HZ := Lib.hid hz6; clear hz6; clear hR6 hRo)))
        refine hK.out _ _ ?_ (fun hS_ => ?_)
        · show Below WX.heap.size WX _
          exact hS.trans (hb6.mono hS.size)
        clear hK K hS
        have hS : Below WX.heap.size WX _ := hS_
        clear hS_
        clear hb6
        refine takeE 4 (some 22) #[true, true, true, true, true, false, false, false, true, false, false, false] hS ?_
        refine takeE 5 (some 27) #[true, true, true, true, true, true, false, false, true, false, false, false] hS ?_
        refine takeE 6 (some 28) #[true, true, true, true, true, true, true, false, true, false, false, false] hS ?_
        refine takeE 7 (some 29) #[true, true, true, true, true, true, true, true, true, false, false, false] hS ?_
        refine doD (i := 9) (ls2 := #[true, true, true, true, true, true, true, true, true, true, false, false]) (by kernel_rfl) rfl (by kernel_rfl) (by kernel_rfl) (fun K hK => ?_)
        go_simp
        refine hK.out _ _ ?_ (fun hS_ => ?_)
        · show Below WX.heap.size WX _
          exact put5_belowZ hS HZ.out (by have h0 := HGB.out; first | omega | (simp at h0; omega)) (.int .i64 p0) (.int .i64 p1) (.int .i64 p2) (.int .i64 p3) (.slice A6 p4.length c6)
        clear hK K hS
        have hS : Below WX.heap.size WX _ := hS_
        clear hS_
        refine takeE 10 (some 8) #[true, true, true, true, true, true, true, true, true, true, true, false] hS ?_
        refine takeE 11 (some 9) #[true, true, true, true, true, true, true, true, true, true, true, true] hS ?_
        refine wpAnyH_done (by kernel_rfl) ?_ _
        go_wp2
        go_meet
        case rel =>
          have h4 := R_ok (ok2 := fun _ => True) (R_other HR4.out (fun k hk => put5_otherZ HZ.out (by have := HZL.out; omega) (.int .i64 p0) (.int .i64 p1) (.int .i64 p2) (.int .i64 p3) (.slice A6 p4.length c6))) (fun _ _ => trivial)
          have h6 := R_ok (ok2 := fun _ => True) (R_other HR6.out (fun k hk => put5_otherZ HZ.out (by have := HZL.out; omega) (.int .i64 p0) (.int .i64 p1) (.int .i64 p2) (.int .i64 p3) (.slice A6 p4.length c6))) (fun _ _ => trivial)
          exact ⟨⟨rfl, ⟨_, A6, c6, rfl, put5_heap HZ.out (.int .i64 p0) (.int .i64 p1) (.int .i64 p2) (.int .i64 p3) (.slice A6 p4.length c6), h4⟩, ⟨_, _, rfl, h6⟩⟩, hS⟩
    · have hgbl := Lib.hid hS.size
      go_simp
      refine hK.out _ _ ?_ (fun hS_ => ?_)
      · show Below WX.heap.size WX _
        exact hS.alloc hS.size _
      clear hK K hS
      have hS : Below WX.heap.size WX _ := hS_
      clear hS_
      have HGB := hgbl
      clear hgbl
      refine doD (i := 1) (ls2 := #[true, true, true, false, false, false, false, false, true, false, false, false]) (by kernel_rfl) rfl (by kernel_rfl) (by kernel_rfl) (fun K hK => ?_)
      go_simp
      go_wp2_with (first | (go_at_call 16; go_loud ((with_reducible refine (H16.out _).mono ?_); rintro e wq1 ⟨vz, rfl, hRz, hb1⟩; obtain ⟨Az, cz, rfl, hcz, _⟩ := Kd.R_reads hRz; have HNZ := Lib.hid (R_nil26 hRz); have hz1 := blk_below (blk_drew (heap_alloc_new _ _)) hb1; have HZ := Lib.hid hz1; clear hz1; clear hRz hcz)))
      refine hK.out _ _ ?_ (fun hS_ => ?_)
      · show Below WX.heap.size WX _
        exact hS.trans (hb1.mono hS.size)
      clear hK K hS
      have hS : Below WX.heap.size WX _ := hS_
      clear hS_
      clear hb1
      refine doD (i := 3) (ls2 := #[true, true, true, true, false, false, false, false, true, false, false, false]) (by kernel_rfl) rfl (by kernel_rfl) (by kernel_rfl) (fun K hK => ?_)
      go_simp
      go_wp2_with (first | (go_at_call 15; go_loud ((with_reducible refine (HRUN.out _ _ _ HNZ.out (Kd.C_below HL1.out hS)).mono ?_); have HSS := Lib.hid hS.size; rintro e wr ⟨v6, vo, rfl, hR6, hRo, hb6⟩; obtain ⟨A6, c6, rfl, hc6, _⟩ := Kd.R_reads hR6; obtain ⟨Ao, co, rfl, hco, _⟩ := Kd.R_reads hRo; have HR4 := Lib.hid (R_base hR6 HSS.out (Nat.le_refl _)); have HR6 := Lib.hid (R_base hRo HSS.out (Nat.le_refl _)); have HZL := Lib.hid (lt_of_block HZ.out); have hz6 := blk_below HZ.out hb6; have z0_ : wr.cell? ⟨_, 0, none⟩ = some (.int .i64 0) := (blk_cell hz6 0).trans rfl; have z1_ : wr.cell? ⟨_, 1, none⟩ = some (.int .i64 0) := (blk_cell hz6 1).trans rfl; have z2_ : wr.cell? ⟨_, 2, none⟩ = some (.int .i64 0) := (blk_cell hz6 2).trans rfl; have z3_ : wr.cell? ⟨_, 3, none⟩ = some (.int .i64 0) := (blk_cell hz6 3).trans rfl; have z4_ : wr.cell? ⟨_, 4, none⟩ = some (.slice none 0 0) := (blk_cell hz6 4).trans rfl; have y0_ : wr.frozen? ⟨_, 0, none⟩ = false := blk_frozen hz6 0; have y1_ : wr.frozen? ⟨_, 1, none⟩ = false := blk_frozen hz6 1; have y2_ : wr.frozen? ⟨_, 2, none⟩ = false := blk_frozen hz6 2; have y3_ : wr.frozen? ⟨_, 3, none⟩ = false := blk_frozen hz6 3; have y4_ : wr.frozen? ⟨_, 4, none⟩ = false := blk_frozen hz6 4; replace HZ := Lib.hid hz6; clear hz6; clear hR6 hRo)))
      refine hK.out _ _ ?_ (fun hS_ => ?_)
      · show Below WX.heap.size WX _
        exact hS.trans (hb6.mono hS.size)
      clear hK K hS
      have hS : Below WX.heap.size WX _ := hS_
      clear hS_
      clear hb6
      refine takeE 4 (some 22) #[true, true, true, true, true, false, false, false, true, false, false, false] hS ?_
      refine takeE 5 (some 27) #[true, true, true, true, true, true, false, false, true, false, false, false] hS ?_
      refine takeE 6 (some 28) #[true, true, true, true, true, true, true, false, true, false, false, false] hS ?_
      refine takeE 7 (some 29) #[true, true, true, true, true, true, true, true, true, false, false, false] hS ?_
      refine doD (i := 9) (ls2 := #[true, true, true, true, true, true, true, true, true, true, false, false]) (by kernel_rfl) rfl (by kernel_rfl) (by kernel_rfl) (fun K hK => ?_)
      go_simp
      refine hK.out _ _ ?_ (fun hS_ => ?_)
      · show Below WX.heap.size WX _
        exact put5_belowZ hS HZ.out (by have h0 := HGB.out; first | omega | (simp at h0; omega)) (.int .i64 p0) (.int .i64 p1) (.int .i64 p2) (.int .i64 p3) (.slice A6 p4.length c6)
      clear hK K hS
      have hS : Below WX.heap.size WX _ := hS_
      clear hS_
      refine takeE 10 (some 8) #[true, true, true, true, true, true, true, true, true, true, true, false] hS ?_
      refine takeE 11 (some 9) #[true, true, true, true, true, true, true, true, true, true, true, true] hS ?_
      refine wpAnyH_done (by kernel_rfl) ?_ _
      go_wp2
      go_meet
      case rel =>
        have h4 := R_ok (ok2 := fun _ => True) (R_other HR4.out (fun k hk => put5_otherZ HZ.out (by have := HZL.out; omega) (.int .i64 p0) (.int .i64 p1) (.int .i64 p2) (.int .i64 p3) (.slice A6 p4.length c6))) (fun _ _ => trivial)
        have h6 := R_ok (ok2 := fun _ => True) (R_other HR6.out (fun k hk => put5_otherZ HZ.out (by have := HZL.out; omega) (.int .i64 p0) (.int .i64 p1) (.int .i64 p2) (.int .i64 p3) (.slice A6 p4.length c6))) (fun _ _ => trivial)
        exact ⟨⟨rfl, ⟨_, A6, c6, rfl, put5_heap HZ.out (.int .i64 p0) (.int .i64 p1) (.int .i64 p2) (.int .i64 p3) (.slice A6 p4.length c6), h4⟩, ⟨_, _, rfl, h6⟩⟩, hS⟩
  case rest =>
    obtain ⟨⟨e0, ⟨gb, A6, c6, rfl, hbox, hR4⟩, ⟨Ao, co, rfl, hRo⟩⟩, hbw⟩ := hcut
    subst e0
    simp only at hbox hR4 hRo
    have hbl := HBX.out.trans (hbw.mono HBX.out.size)
    have g8 := blk_below HGX.out hbw
    have r8 := blk_below HRX.out hbw
    have q0 : wc.cell? ⟨w.heap.size, 0, none⟩ = some (.int .i64 g.f0) := (blk_cell g8 0).trans rfl
    have q1 : wc.cell? ⟨w.heap.size, 1, none⟩ = some (.int .i64 g.f1) := (blk_cell g8 1).trans rfl
    have q2 : wc.cell? ⟨w.heap.size, 2, none⟩ = some (.int .i64 g.f2) := (blk_cell g8 2).trans rfl
    have k0 : wc.cell? ⟨w.heap.size + 1, 0, none⟩ = some (.int .i64 r.f0) := (blk_cell r8 0).trans rfl
    have k1 : wc.cell? ⟨w.heap.size + 1, 1, none⟩ = some (.int .i64 r.f1) := (blk_cell r8 1).trans rfl
    have k2 : wc.cell? ⟨w.heap.size + 1, 2, none⟩ = some (.string r.f2) := (blk_cell r8 2).trans rfl
    have HBOX := Lib.hid hbox
    have HG8 := Lib.hid g8
    have HR8 := Lib.hid r8
    have HR4 := Lib.hid hR4
    have HBL := Lib.hid hbl
    clear hbox hbl hbw HRUN HGX HRX HL1 HBX H16 HBB HGB0 HRB0 HWB HSOME HLS g8 r8 hR4 hRo
    by_cases he : pe = 0
    rotate_left
    · have de : (pe == 0) = false := beq_eq_false_iff_ne.2 he
      go_wp2_with (first | (go_at_call 20; go_loud ((with_reducible refine (awake_calls _).mono ?_); rintro e w9 ⟨rfl, hb9⟩)))
      go_ret
      exact ⟨rfl, HBL.out.trans (hb9.mono HBL.out.size)⟩
    subst he
    obtain ⟨hi, hn3⟩ := HINV.out rfl
    have hmay := fun w => headgateref06_MayRecord.calls r.f0 r.f1 r.f2 _ w (mayRec_ref r)
    obtain ⟨mb, hmb⟩ : ∃ b, decide (0 ≤ r.f0 ∧ r.f0 ≤ 1048576 ∧ 0 ≤ r.f1 ∧ r.f1 ≤ 1099511627776 ∧ r.f2.size ≤ 512) = b := ⟨_, rfl⟩
    rw [hmb] at hmay
    have HMAY := Lib.hid hmay
    have HMB := Lib.hid hmb
    have HI := Lib.hid hi
    have HN3 := Lib.hid hn3
    clear hmay hmb hi hn3 HINV
    cases mb with
    | false =>
      go_wp2_with (first | (go_at_call 28; go_loud ((with_reducible refine (HMAY.out _).mono ?_); rintro e w8 ⟨rfl, hb8⟩; have HB8 := Lib.hid hb8; clear hb8)) | (go_at_call 20; go_loud ((with_reducible refine (awake_calls _).mono ?_); rintro e w9 ⟨rfl, hb9⟩)))
      go_ret
      exact ⟨rfl, (HBL.out.trans (HB8.out.mono HBL.out.size)).trans (hb9.mono (Nat.le_trans HBL.out.size HB8.out.size))⟩
    | true =>
      go_upto_region 5 with (first | (go_at_call 28; go_loud ((with_reducible refine (HMAY.out _).mono ?_); rintro e w8 ⟨rfl, hb8⟩; have HB8 := Lib.hid hb8; clear hb8)))
      clear HMAY
      obtain ⟨m0, m1, m2, m3, m4⟩ := of_decide_eq_true HMB.out
      have hll := late_law HI.out HN3.out m0 m1 m2 m3
      have hlen4 := HI.out.len
      have hfeed := fun (W : World) (hC : k46.C W A6 p4.length p4) (hcc : p4.length ≤ c6) (hn : A6 = none → p4 = [] ∧ c6 = 0) => feed_calls g ⟨p0, p1, p2, p3, p4⟩ r A6 c6 W hC hcc (by simp only at hlen4 ⊢; omega) hn (by omega)
      obtain ⟨P2, hP2⟩ : ∃ p, feedP g ⟨p0, p1, p2, p3, p4⟩ r = p := ⟨_, rfl⟩
      rw [hP2] at hfeed hll
      obtain ⟨⟨t0, t1, t2, t3, t4⟩, tv, te⟩ := P2
      obtain ⟨ht0, hl1, hl2⟩ := hll
      simp only at ht0 hl1 hl2
      subst ht0
      have HCC6 := Lib.hid (Kd.R_reads' HR4.out)
      have HN6 := Lib.hid (R_nil26 HR4.out)
      have HFE := Lib.hid hfeed
      have HL1 := Lib.hid hl1
      have HL2 := Lib.hid hl2
      clear hl1 hl2 hfeed
      have hG9 := blk_below HG8.out HB8.out
      have hR9 := blk_below HR8.out HB8.out
      have hX9 := blk_below HBOX.out HB8.out
      have q0 : w8.cell? ⟨w.heap.size, 0, none⟩ = some (.int .i64 g.f0) := (blk_cell hG9 0).trans rfl
      have q1 : w8.cell? ⟨w.heap.size, 1, none⟩ = some (.int .i64 g.f1) := (blk_cell hG9 1).trans rfl
      have q2 : w8.cell? ⟨w.heap.size, 2, none⟩ = some (.int .i64 g.f2) := (blk_cell hG9 2).trans rfl
      have k0 : w8.cell? ⟨w.heap.size + 1, 0, none⟩ = some (.int .i64 r.f0) := (blk_cell hR9 0).trans rfl
      have k1 : w8.cell? ⟨w.heap.size + 1, 1, none⟩ = some (.int .i64 r.f1) := (blk_cell hR9 1).trans rfl
      have k2 : w8.cell? ⟨w.heap.size + 1, 2, none⟩ = some (.string r.f2) := (blk_cell hR9 2).trans rfl
      have b0 : w8.cell? ⟨gb, 0, none⟩ = some (.int .i64 p0) := (blk_cell hX9 0).trans rfl
      have b1 : w8.cell? ⟨gb, 1, none⟩ = some (.int .i64 p1) := (blk_cell hX9 1).trans rfl
      have b2 : w8.cell? ⟨gb, 2, none⟩ = some (.int .i64 p2) := (blk_cell hX9 2).trans rfl
      have b3 : w8.cell? ⟨gb, 3, none⟩ = some (.int .i64 p3) := (blk_cell hX9 3).trans rfl
      have b4 : w8.cell? ⟨gb, 4, none⟩ = some (.slice A6 p4.length c6) := (blk_cell hX9 4).trans rfl
      have HG9 := Lib.hid hG9
      have HR9 := Lib.hid hR9
      have HX9 := Lib.hid hX9
      have HBL8 := Lib.hid (HBL.out.trans (HB8.out.mono HBL.out.size))
      clear hG9 hR9 hX9 hP2 m0 m1 m4 hlen4 HG8 HR8 HBOX HBL HMB
      go_cut [10, 11, 12] from 38 to 45 (fun v5 v6 v7 wd => RunRes w8 wd (⟨t0, t1, t2, t3, t4⟩, tv, 0) v5 v6 v7 ∧ Below w8.heap.size w8 wd)
      case first =>
        go_wp2_with (first | (go_at_call 29; go_loud ((with_reducible refine (HFE.out _ (Kd.C_below HCC6.out.2.2 HB8.out) HCC6.out.2.1 HN6.out).mono ?_); rintro e wr ⟨v6, vo, rfl, hR6, hRo, hb6⟩; obtain ⟨A7, c7, rfl, hc7, _⟩ := Kd.R_reads hR6; obtain ⟨At, ct, rfl, hct, _⟩ := Kd.R_reads hRo; have HRT := Lib.hid hR6; have HRV := Lib.hid hRo; have HB7 := Lib.hid hb6; clear hR6 hRo hb6)))
        go_meet
        case rel =>
          have hba := (Below.refl wr.heap.size wr).alloc (Nat.le_refl _) (.cells #[.int .i64 t0, .int .i64 t1, .int .i64 t2, .int .i64 t3, .slice A7 t4.length c7] 28)
          exact ⟨⟨rfl, ⟨_, A7, c7, rfl, heap_alloc_new _ _, Kd.R_below HRT.out hba⟩, ⟨_, _, rfl, Kd.R_below HRV.out hba⟩⟩, HB7.out.trans (hba.mono HB7.out.size)⟩
      case rest =>
        obtain ⟨⟨e0, ⟨gt, A7, c7, rfl, htx, hR7⟩, ⟨At, ct, rfl, hRt⟩⟩, hbw⟩ := hcut
        simp only at e0 htx hR7 hRt
        subst e0
        have HR7 := Lib.hid hR7
        have HRT := Lib.hid hRt
        have HBT := Lib.hid htx
        have HG9b := Lib.hid (blk_below HG9.out hbw)
        have HR9b := Lib.hid (blk_below HR9.out hbw)
        have HX9b := Lib.hid (blk_below HX9.out hbw)
        have HBW := Lib.hid (HBL8.out.trans (hbw.mono HBL8.out.size))
        have HC4 := Lib.hid (Kd.C_below (Kd.C_below HCC6.out.2.2 HB8.out) hbw)
        clear htx hR7 hRt hbw q0 q1 q2 k0 k1 k2 b0 b1 b2 b3 b4 HG9 HR9 HX9 HBL8
        have k0 : wc.cell? ⟨w.heap.size + 1, 0, none⟩ = some (.int .i64 r.f0) := (blk_cell HR9b.out 0).trans rfl
        have k1 : wc.cell? ⟨w.heap.size + 1, 1, none⟩ = some (.int .i64 r.f1) := (blk_cell HR9b.out 1).trans rfl
        have k2 : wc.cell? ⟨w.heap.size + 1, 2, none⟩ = some (.string r.f2) := (blk_cell HR9b.out 2).trans rfl
        obtain ⟨kv, rv, hv⟩ := value_ref r.f0 r.f1 r.f2
        obtain ⟨ok, hok⟩ : ∃ b, (valP r.f2).2 = b := ⟨_, rfl⟩
        rw [hok] at hv
        have hl1 := HL1.out
        have hl2 := HL2.out
        rw [hok] at hl1 hl2
        have HV := Lib.hid (fun w => headgateref16_Value.calls kv r.f0 r.f1 r.f2 rv ok w hv)
        have HLA := Lib.hid hl1
        have HLB := Lib.hid hl2
        clear hv hl1 hl2 hok HL1 HL2
        go_upto_region 9 with (first | (go_at_call 23; go_loud ((with_reducible refine (HV.out _).mono ?_); rintro e wv ⟨rfl, hbv⟩; have HBV := Lib.hid hbv; clear hbv)))
        clear k0 k1 k2
        have q0 : wv.cell? ⟨w.heap.size, 0, none⟩ = some (.int .i64 g.f0) := (blk_cell (blk_below HG9b.out HBV.out) 0).trans rfl
        have q1 : wv.cell? ⟨w.heap.size, 1, none⟩ = some (.int .i64 g.f1) := (blk_cell (blk_below HG9b.out HBV.out) 1).trans rfl
        have q2 : wv.cell? ⟨w.heap.size, 2, none⟩ = some (.int .i64 g.f2) := (blk_cell (blk_below HG9b.out HBV.out) 2).trans rfl
        have k1 : wv.cell? ⟨w.heap.size + 1, 1, none⟩ = some (.int .i64 r.f1) := (blk_cell (blk_below HR9b.out HBV.out) 1).trans rfl
        have hgr := HI.out.grid
        have hst := fun w => startsRef_calls hgr m2 m3 w
        have hsl := startsP_length g r.f1 hgr
        have hop : openB g r.f1 p0 = (startsP g r.f1).any (fun a => !closedP g a p0) := rfl
        obtain ⟨S, hS⟩ : ∃ S, startsP g r.f1 = S := ⟨_, rfl⟩
        rw [hS] at hst hsl hop
        have HST := Lib.hid hst
        have HOP := Lib.hid hop
        have HGR := Lib.hid hgr
        clear hst hop hS hgr
        go_upto_region 10 with (first | (go_at_call 27; go_loud ((with_reducible refine (HST.out _).mono ?_); rintro e ws ⟨vs, rfl, hRs, hbs⟩; obtain ⟨As, cs, rfl, hcs, hCs⟩ := Kd.R_reads hRs; have HCS := Lib.hid hCs; have HBS := Lib.hid hbs; clear hRs hCs hbs)))
        clear q0 q1 q2 k1
        have HGs := Lib.hid (blk_below (blk_below HG9b.out HBV.out) HBS.out)
        have HXs := Lib.hid (blk_below (blk_below HX9b.out HBV.out) HBS.out)
        have HTs := Lib.hid (blk_below (blk_below HBT.out HBV.out) HBS.out)
        have HBs := Lib.hid ((HBW.out.trans (HBV.out.mono HBW.out.size)).trans (HBS.out.mono (Nat.le_trans HBW.out.size HBV.out.size)))
        have HC4s := Lib.hid (Kd.C_below (Kd.C_below HC4.out HBV.out) HBS.out)
        have HC7s := Lib.hid (Kd.C_below (Kd.C_below (Kd.R_reads' HR7.out).2.2 HBV.out) HBS.out)
        have hmk : -1 ≤ p0 ∧ p0 ≤ 1099511627776 := by
          have := HI.out.mark
          simp only at this
          omega
        have HMK := Lib.hid hmk
        clear hmk
        go_wp2
        go_loopg [17, 18] S.length (fun kq v17 v18 WX => ∃ (i : Nat) (b : Bool), v17 = .bool b ∧ (S.take i).any (fun a => !closedP g a p0) = b ∧ v18 = .int .i64 (i : Int) ∧ i ≤ S.length ∧ S.length - i ≤ kq ∧ Below ws.heap.size ws WX)
        case atStart => exact ⟨0, false, rfl, rfl, rfl, Nat.zero_le _, by omega, Below.refl _ _⟩
        case round =>
          obtain ⟨i, b, rfl, hb, rfl, hil, hik, hbr⟩ := hrel
          by_cases hlt : i < S.length
          rotate_left
          · have d1 : decide ((i : Int) < (S.length : Int)) = false := decide_eq_false (by omega)
            have hfull : openB g r.f1 p0 = b := by rw [HOP.out, ← hb, List.take_of_length_le (by omega)]
            have HBR := Lib.hid hbr
            have HFU := Lib.hid hfull
            clear hbr hfull hb
            cases ok with
            | false =>
              cases b with
              | false =>
                have hXt := blk_below HXs.out HBR.out
                have hTt := blk_below HTs.out HBR.out
                have hBt := HBs.out.trans (HBR.out.mono HBs.out.size)
                have hp3 : 0 ≤ p3 := HI.out.n0
                have hp1 : 0 ≤ p1 := HI.out.late
                have hp2 : 0 ≤ p2 := HI.out.bad
                have hlb : p1 + p2 ≤ p3 := HI.out.lb
                have hn3 := HN3.out
                have hw3 : IntKind.i64.wrap (p3 + 1) = p3 + 1 := by rw [IntKind.wrap_i64]; omega
                have hq := HLB.out (by rw [HFU.out]; rfl)
                have h0 : p0 = t0 := congrArg (fun x => x.1.f0) hq.symm
                have h1 : p1 = t1 := congrArg (fun x => x.1.f1) hq.symm
                have h2 : p2 + 1 = t2 := congrArg (fun x => x.1.f2) hq.symm
                have h3 : p3 + 1 = t3 := congrArg (fun x => x.1.f3) hq.symm
                have h4 : p4 = t4 := congrArg (fun x => x.1.f4) hq.symm
                have h5 : [] = tv := congrArg (fun x => x.2.1) hq.symm
                clear hq
                subst h0 h1 h2 h3 h4 h5
                have hw1 : IntKind.i64.wrap (p2 + 1) = p2 + 1 := by rw [IntKind.wrap_i64]; omega
                have c0 : wr.cell? ⟨gb, 0, none⟩ = some (.int .i64 p0) := (blk_cell hXt 0).trans rfl
                have c1 : wr.cell? ⟨gb, 1, none⟩ = some (.int .i64 p1) := (blk_cell hXt 1).trans rfl
                have c2 : wr.cell? ⟨gb, 2, none⟩ = some (.int .i64 p2) := (blk_cell hXt 2).trans rfl
                have c3 : wr.cell? ⟨gb, 3, none⟩ = some (.int .i64 p3) := (blk_cell hXt 3).trans rfl
                have c4 : wr.cell? ⟨gb, 4, none⟩ = some (.slice A6 p4.length c6) := (blk_cell hXt 4).trans rfl
                have HXt := Lib.hid hXt
                have HTt := Lib.hid hTt
                have HBt := Lib.hid hBt
                clear hXt hTt hBt hp1 hp2 hp3 hlb
                go_upto_region 18 with fail
                obtain ⟨W1, hW1⟩ : ∃ W, W = wr.alloc (.cells #[.int .i64 p0, .int .i64 p1, .int .i64 p2, .int .i64 p3, .slice A6 p4.length c6] 28) := ⟨_, rfl⟩
                have hb1 : Below wr.heap.size wr W1 := by rw [hW1]; exact (Below.refl _ _).alloc (Nat.le_refl _) _
                have hN1 : W1.heap[wr.heap.size]? = some (.cells #[.int .i64 p0, .int .i64 p1, .int .i64 p2, .int .i64 p3, .slice A6 p4.length c6] 28 (0, 0)) := by rw [hW1]; exact heap_alloc_new _ _
                rw [← hW1]
                have hX1 := blk_below HXt.out hb1
                have hT1 := blk_below HTt.out hb1
                have hlx := lt_of_block HXt.out
                have hlt2 := lt_of_block HTt.out
                clear c0 c1 c2 c3 c4
                have c3 : W1.cell? ⟨gb, 3, none⟩ = some (.int .i64 p3) := (blk_cell hX1 3).trans rfl
                have y3 : W1.frozen? ⟨wr.heap.size, 3, none⟩ = false := blk_frozen hN1 3
                have z3 : W1.cell? ⟨wr.heap.size, 3, none⟩ = some (.int .i64 p3) := (blk_cell hN1 3).trans rfl
                have HX1 := Lib.hid hX1
                have HT1 := Lib.hid hT1
                have HN1 := Lib.hid hN1
                have HB1 := Lib.hid hb1
                clear hX1 hT1 hN1 hb1 hW1
                go_upto_region 19 with fail
                obtain ⟨W2, hW2⟩ : ∃ W, W = W1.setCell ⟨wr.heap.size, 3, none⟩ (.int .i64 (p3 + 1)) := ⟨_, rfl⟩
                have hX2 : W2.heap[gb]? = some (.cells #[.int .i64 p0, .int .i64 p1, .int .i64 p2, .int .i64 p3, .slice A6 p4.length c6] 28 (0, 0)) := by rw [hW2]; exact (heap_setCell_other _ _ _ _ (show gb ≠ wr.heap.size by omega)).trans HX1.out
                have hT2 : W2.heap[gt]? = some (.cells #[.int .i64 p0, .int .i64 (p1), .int .i64 (p2 + 1), .int .i64 (p3 + 1), .slice A7 p4.length c7] 28 (0, 0)) := by rw [hW2]; exact (heap_setCell_other _ _ _ _ (show gt ≠ wr.heap.size by omega)).trans HT1.out
                have hN2 : W2.heap[wr.heap.size]? = some (.cells #[.int .i64 p0, .int .i64 p1, .int .i64 p2, .int .i64 (p3 + 1), .slice A6 p4.length c6] 28 (0, 0)) := by rw [hW2]; exact blk_put HN1.out 3 _ rfl
                have hb2 : Below wr.heap.size wr W2 := by rw [hW2]; exact HB1.out.setCell (Nat.le_refl _) _
                rw [← hW2]
                clear c3 y3 z3 hW2
                have c1 : W2.cell? ⟨gb, 2, none⟩ = some (.int .i64 p2) := (blk_cell hX2 2).trans rfl
                have y1 : W2.frozen? ⟨wr.heap.size, 2, none⟩ = false := blk_frozen hN2 2
                have z1 : W2.cell? ⟨wr.heap.size, 2, none⟩ = some (.int .i64 p2) := (blk_cell hN2 2).trans rfl
                have HX2 := Lib.hid hX2
                have HT2 := Lib.hid hT2
                have HN2 := Lib.hid hN2
                have HB2 := Lib.hid hb2
                clear hX2 hT2 hN2 hb2
                go_upto_region 22 with fail
                obtain ⟨W3, hW3⟩ : ∃ W, W = W2.setCell ⟨wr.heap.size, 2, none⟩ (.int .i64 (p2 + 1)) := ⟨_, rfl⟩
                have hT3 : W3.heap[gt]? = some (.cells #[.int .i64 p0, .int .i64 (p1), .int .i64 (p2 + 1), .int .i64 (p3 + 1), .slice A7 p4.length c7] 28 (0, 0)) := by rw [hW3]; exact (heap_setCell_other _ _ _ _ (show gt ≠ wr.heap.size by omega)).trans HT2.out
                have hN3b : W3.heap[wr.heap.size]? = some (.cells #[.int .i64 p0, .int .i64 (p1), .int .i64 (p2 + 1), .int .i64 (p3 + 1), .slice A6 p4.length c6] 28 (0, 0)) := by rw [hW3]; exact blk_put HN2.out 2 _ rfl
                have hb3 : Below wr.heap.size wr W3 := by rw [hW3]; exact HB2.out.setCell (Nat.le_refl _) _
                rw [← hW3]
                clear c1 y1 z1 hW3
                have a0 : W3.cell? ⟨gt, 0, none⟩ = some (.int .i64 p0) := (blk_cell hT3 0).trans rfl
                have n0 : W3.cell? ⟨wr.heap.size, 0, none⟩ = some (.int .i64 p0) := (blk_cell hN3b 0).trans rfl
                have a1 : W3.cell? ⟨gt, 1, none⟩ = some (.int .i64 (p1)) := (blk_cell hT3 1).trans rfl
                have n1 : W3.cell? ⟨wr.heap.size, 1, none⟩ = some (.int .i64 (p1)) := (blk_cell hN3b 1).trans rfl
                have a2 : W3.cell? ⟨gt, 2, none⟩ = some (.int .i64 (p2 + 1)) := (blk_cell hT3 2).trans rfl
                have n2 : W3.cell? ⟨wr.heap.size, 2, none⟩ = some (.int .i64 (p2 + 1)) := (blk_cell hN3b 2).trans rfl
                have a3 : W3.cell? ⟨gt, 3, none⟩ = some (.int .i64 (p3 + 1)) := (blk_cell hT3 3).trans rfl
                have n3 : W3.cell? ⟨wr.heap.size, 3, none⟩ = some (.int .i64 (p3 + 1)) := (blk_cell hN3b 3).trans rfl
                have a4 : W3.cell? ⟨gt, 4, none⟩ = some (.slice A7 p4.length c7) := (blk_cell hT3 4).trans rfl
                have n4 : W3.cell? ⟨wr.heap.size, 4, none⟩ = some (.slice A6 p4.length c6) := (blk_cell hN3b 4).trans rfl
                have hbs3 : Below ws.heap.size ws W3 := HBR.out.trans (hb3.mono HBR.out.size)
                have hsame := headgateref16_Same.calls (p4.length + 1) p0 (p1) (p2 + 1) (p3 + 1) A7 c7 p4 p0 (p1) (p2 + 1) (p3 + 1) A6 c6 p4 true W3 (Kd.C_below HC7s.out hbs3) (Kd.R_reads' HR7.out).2.1 (Kd.C_below HC4s.out hbs3) HCC6.out.2.1 (same_state ⟨p0, p1, p2 + 1, p3 + 1, p4⟩ (by have := HI.out.len; simp only at this ⊢; omega))
                have HSAME := Lib.hid hsame
                have HB3 := Lib.hid (HBt.out.trans (hb3.mono HBt.out.size))
                clear hT3 hN3b hb3 hbs3 hsame
                go_wp2_with (first | (go_at_call 18; go_loud ((with_reducible refine HSAME.out.mono ?_); rintro e wm ⟨rfl, hbm⟩; have HBM := Lib.hid hbm; clear hbm)) | (go_at_call 20; go_loud ((with_reducible refine (awake_calls _).mono ?_); rintro e w9 ⟨rfl, hb9⟩)))
                go_ret
                exact ⟨rfl, (HB3.out.trans (HBM.out.mono HB3.out.size)).trans (hb9.mono (Nat.le_trans HB3.out.size HBM.out.size))⟩
              | true =>
                have hXt := blk_below HXs.out HBR.out
                have hTt := blk_below HTs.out HBR.out
                have hBt := HBs.out.trans (HBR.out.mono HBs.out.size)
                have hp3 : 0 ≤ p3 := HI.out.n0
                have hp1 : 0 ≤ p1 := HI.out.late
                have hp2 : 0 ≤ p2 := HI.out.bad
                have hlb : p1 + p2 ≤ p3 := HI.out.lb
                have hn3 := HN3.out
                have hw3 : IntKind.i64.wrap (p3 + 1) = p3 + 1 := by rw [IntKind.wrap_i64]; omega
                have hq := HLB.out (by rw [HFU.out]; rfl)
                have h0 : p0 = t0 := congrArg (fun x => x.1.f0) hq.symm
                have h1 : p1 = t1 := congrArg (fun x => x.1.f1) hq.symm
                have h2 : p2 + 1 = t2 := congrArg (fun x => x.1.f2) hq.symm
                have h3 : p3 + 1 = t3 := congrArg (fun x => x.1.f3) hq.symm
                have h4 : p4 = t4 := congrArg (fun x => x.1.f4) hq.symm
                have h5 : [] = tv := congrArg (fun x => x.2.1) hq.symm
                clear hq
                subst h0 h1 h2 h3 h4 h5
                have hw1 : IntKind.i64.wrap (p2 + 1) = p2 + 1 := by rw [IntKind.wrap_i64]; omega
                have c0 : wr.cell? ⟨gb, 0, none⟩ = some (.int .i64 p0) := (blk_cell hXt 0).trans rfl
                have c1 : wr.cell? ⟨gb, 1, none⟩ = some (.int .i64 p1) := (blk_cell hXt 1).trans rfl
                have c2 : wr.cell? ⟨gb, 2, none⟩ = some (.int .i64 p2) := (blk_cell hXt 2).trans rfl
                have c3 : wr.cell? ⟨gb, 3, none⟩ = some (.int .i64 p3) := (blk_cell hXt 3).trans rfl
                have c4 : wr.cell? ⟨gb, 4, none⟩ = some (.slice A6 p4.length c6) := (blk_cell hXt 4).trans rfl
                have HXt := Lib.hid hXt
                have HTt := Lib.hid hTt
                have HBt := Lib.hid hBt
                clear hXt hTt hBt hp1 hp2 hp3 hlb
                go_upto_region 18 with fail
                obtain ⟨W1, hW1⟩ : ∃ W, W = wr.alloc (.cells #[.int .i64 p0, .int .i64 p1, .int .i64 p2, .int .i64 p3, .slice A6 p4.length c6] 28) := ⟨_, rfl⟩
                have hb1 : Below wr.heap.size wr W1 := by rw [hW1]; exact (Below.refl _ _).alloc (Nat.le_refl _) _
                have hN1 : W1.heap[wr.heap.size]? = some (.cells #[.int .i64 p0, .int .i64 p1, .int .i64 p2, .int .i64 p3, .slice A6 p4.length c6] 28 (0, 0)) := by rw [hW1]; exact heap_alloc_new _ _
                rw [← hW1]
                have hX1 := blk_below HXt.out hb1
                have hT1 := blk_below HTt.out hb1
                have hlx := lt_of_block HXt.out
                have hlt2 := lt_of_block HTt.out
                clear c0 c1 c2 c3 c4
                have c3 : W1.cell? ⟨gb, 3, none⟩ = some (.int .i64 p3) := (blk_cell hX1 3).trans rfl
                have y3 : W1.frozen? ⟨wr.heap.size, 3, none⟩ = false := blk_frozen hN1 3
                have z3 : W1.cell? ⟨wr.heap.size, 3, none⟩ = some (.int .i64 p3) := (blk_cell hN1 3).trans rfl
                have HX1 := Lib.hid hX1
                have HT1 := Lib.hid hT1
                have HN1 := Lib.hid hN1
                have HB1 := Lib.hid hb1
                clear hX1 hT1 hN1 hb1 hW1
                go_upto_region 19 with fail
                obtain ⟨W2, hW2⟩ : ∃ W, W = W1.setCell ⟨wr.heap.size, 3, none⟩ (.int .i64 (p3 + 1)) := ⟨_, rfl⟩
                have hX2 : W2.heap[gb]? = some (.cells #[.int .i64 p0, .int .i64 p1, .int .i64 p2, .int .i64 p3, .slice A6 p4.length c6] 28 (0, 0)) := by rw [hW2]; exact (heap_setCell_other _ _ _ _ (show gb ≠ wr.heap.size by omega)).trans HX1.out
                have hT2 : W2.heap[gt]? = some (.cells #[.int .i64 p0, .int .i64 (p1), .int .i64 (p2 + 1), .int .i64 (p3 + 1), .slice A7 p4.length c7] 28 (0, 0)) := by rw [hW2]; exact (heap_setCell_other _ _ _ _ (show gt ≠ wr.heap.size by omega)).trans HT1.out
                have hN2 : W2.heap[wr.heap.size]? = some (.cells #[.int .i64 p0, .int .i64 p1, .int .i64 p2, .int .i64 (p3 + 1), .slice A6 p4.length c6] 28 (0, 0)) := by rw [hW2]; exact blk_put HN1.out 3 _ rfl
                have hb2 : Below wr.heap.size wr W2 := by rw [hW2]; exact HB1.out.setCell (Nat.le_refl _) _
                rw [← hW2]
                clear c3 y3 z3 hW2
                have c1 : W2.cell? ⟨gb, 2, none⟩ = some (.int .i64 p2) := (blk_cell hX2 2).trans rfl
                have y1 : W2.frozen? ⟨wr.heap.size, 2, none⟩ = false := blk_frozen hN2 2
                have z1 : W2.cell? ⟨wr.heap.size, 2, none⟩ = some (.int .i64 p2) := (blk_cell hN2 2).trans rfl
                have HX2 := Lib.hid hX2
                have HT2 := Lib.hid hT2
                have HN2 := Lib.hid hN2
                have HB2 := Lib.hid hb2
                clear hX2 hT2 hN2 hb2
                go_upto_region 22 with fail
                obtain ⟨W3, hW3⟩ : ∃ W, W = W2.setCell ⟨wr.heap.size, 2, none⟩ (.int .i64 (p2 + 1)) := ⟨_, rfl⟩
                have hT3 : W3.heap[gt]? = some (.cells #[.int .i64 p0, .int .i64 (p1), .int .i64 (p2 + 1), .int .i64 (p3 + 1), .slice A7 p4.length c7] 28 (0, 0)) := by rw [hW3]; exact (heap_setCell_other _ _ _ _ (show gt ≠ wr.heap.size by omega)).trans HT2.out
                have hN3b : W3.heap[wr.heap.size]? = some (.cells #[.int .i64 p0, .int .i64 (p1), .int .i64 (p2 + 1), .int .i64 (p3 + 1), .slice A6 p4.length c6] 28 (0, 0)) := by rw [hW3]; exact blk_put HN2.out 2 _ rfl
                have hb3 : Below wr.heap.size wr W3 := by rw [hW3]; exact HB2.out.setCell (Nat.le_refl _) _
                rw [← hW3]
                clear c1 y1 z1 hW3
                have a0 : W3.cell? ⟨gt, 0, none⟩ = some (.int .i64 p0) := (blk_cell hT3 0).trans rfl
                have n0 : W3.cell? ⟨wr.heap.size, 0, none⟩ = some (.int .i64 p0) := (blk_cell hN3b 0).trans rfl
                have a1 : W3.cell? ⟨gt, 1, none⟩ = some (.int .i64 (p1)) := (blk_cell hT3 1).trans rfl
                have n1 : W3.cell? ⟨wr.heap.size, 1, none⟩ = some (.int .i64 (p1)) := (blk_cell hN3b 1).trans rfl
                have a2 : W3.cell? ⟨gt, 2, none⟩ = some (.int .i64 (p2 + 1)) := (blk_cell hT3 2).trans rfl
                have n2 : W3.cell? ⟨wr.heap.size, 2, none⟩ = some (.int .i64 (p2 + 1)) := (blk_cell hN3b 2).trans rfl
                have a3 : W3.cell? ⟨gt, 3, none⟩ = some (.int .i64 (p3 + 1)) := (blk_cell hT3 3).trans rfl
                have n3 : W3.cell? ⟨wr.heap.size, 3, none⟩ = some (.int .i64 (p3 + 1)) := (blk_cell hN3b 3).trans rfl
                have a4 : W3.cell? ⟨gt, 4, none⟩ = some (.slice A7 p4.length c7) := (blk_cell hT3 4).trans rfl
                have n4 : W3.cell? ⟨wr.heap.size, 4, none⟩ = some (.slice A6 p4.length c6) := (blk_cell hN3b 4).trans rfl
                have hbs3 : Below ws.heap.size ws W3 := HBR.out.trans (hb3.mono HBR.out.size)
                have hsame := headgateref16_Same.calls (p4.length + 1) p0 (p1) (p2 + 1) (p3 + 1) A7 c7 p4 p0 (p1) (p2 + 1) (p3 + 1) A6 c6 p4 true W3 (Kd.C_below HC7s.out hbs3) (Kd.R_reads' HR7.out).2.1 (Kd.C_below HC4s.out hbs3) HCC6.out.2.1 (same_state ⟨p0, p1, p2 + 1, p3 + 1, p4⟩ (by have := HI.out.len; simp only at this ⊢; omega))
                have HSAME := Lib.hid hsame
                have HB3 := Lib.hid (HBt.out.trans (hb3.mono HBt.out.size))
                clear hT3 hN3b hb3 hbs3 hsame
                go_wp2_with (first | (go_at_call 18; go_loud ((with_reducible refine HSAME.out.mono ?_); rintro e wm ⟨rfl, hbm⟩; have HBM := Lib.hid hbm; clear hbm)) | (go_at_call 20; go_loud ((with_reducible refine (awake_calls _).mono ?_); rintro e w9 ⟨rfl, hb9⟩)))
                go_ret
                exact ⟨rfl, (HB3.out.trans (HBM.out.mono HB3.out.size)).trans (hb9.mono (Nat.le_trans HB3.out.size HBM.out.size))⟩
            | true =>
              cases b with
              | false =>
                have hXt := blk_below HXs.out HBR.out
                have hTt := blk_below HTs.out HBR.out
                have hBt := HBs.out.trans (HBR.out.mono HBs.out.size)
                have hp3 : 0 ≤ p3 := HI.out.n0
                have hp1 : 0 ≤ p1 := HI.out.late
                have hp2 : 0 ≤ p2 := HI.out.bad
                have hlb : p1 + p2 ≤ p3 := HI.out.lb
                have hn3 := HN3.out
                have hw3 : IntKind.i64.wrap (p3 + 1) = p3 + 1 := by rw [IntKind.wrap_i64]; omega
                have hq := HLB.out (by rw [HFU.out]; rfl)
                have h0 : p0 = t0 := congrArg (fun x => x.1.f0) hq.symm
                have h1 : p1 + 1 = t1 := congrArg (fun x => x.1.f1) hq.symm
                have h2 : p2 = t2 := congrArg (fun x => x.1.f2) hq.symm
                have h3 : p3 + 1 = t3 := congrArg (fun x => x.1.f3) hq.symm
                have h4 : p4 = t4 := congrArg (fun x => x.1.f4) hq.symm
                have h5 : [] = tv := congrArg (fun x => x.2.1) hq.symm
                clear hq
                subst h0 h1 h2 h3 h4 h5
                have hw1 : IntKind.i64.wrap (p1 + 1) = p1 + 1 := by rw [IntKind.wrap_i64]; omega
                have c0 : wr.cell? ⟨gb, 0, none⟩ = some (.int .i64 p0) := (blk_cell hXt 0).trans rfl
                have c1 : wr.cell? ⟨gb, 1, none⟩ = some (.int .i64 p1) := (blk_cell hXt 1).trans rfl
                have c2 : wr.cell? ⟨gb, 2, none⟩ = some (.int .i64 p2) := (blk_cell hXt 2).trans rfl
                have c3 : wr.cell? ⟨gb, 3, none⟩ = some (.int .i64 p3) := (blk_cell hXt 3).trans rfl
                have c4 : wr.cell? ⟨gb, 4, none⟩ = some (.slice A6 p4.length c6) := (blk_cell hXt 4).trans rfl
                have HXt := Lib.hid hXt
                have HTt := Lib.hid hTt
                have HBt := Lib.hid hBt
                clear hXt hTt hBt hp1 hp2 hp3 hlb
                go_upto_region 18 with fail
                obtain ⟨W1, hW1⟩ : ∃ W, W = wr.alloc (.cells #[.int .i64 p0, .int .i64 p1, .int .i64 p2, .int .i64 p3, .slice A6 p4.length c6] 28) := ⟨_, rfl⟩
                have hb1 : Below wr.heap.size wr W1 := by rw [hW1]; exact (Below.refl _ _).alloc (Nat.le_refl _) _
                have hN1 : W1.heap[wr.heap.size]? = some (.cells #[.int .i64 p0, .int .i64 p1, .int .i64 p2, .int .i64 p3, .slice A6 p4.length c6] 28 (0, 0)) := by rw [hW1]; exact heap_alloc_new _ _
                rw [← hW1]
                have hX1 := blk_below HXt.out hb1
                have hT1 := blk_below HTt.out hb1
                have hlx := lt_of_block HXt.out
                have hlt2 := lt_of_block HTt.out
                clear c0 c1 c2 c3 c4
                have c3 : W1.cell? ⟨gb, 3, none⟩ = some (.int .i64 p3) := (blk_cell hX1 3).trans rfl
                have y3 : W1.frozen? ⟨wr.heap.size, 3, none⟩ = false := blk_frozen hN1 3
                have z3 : W1.cell? ⟨wr.heap.size, 3, none⟩ = some (.int .i64 p3) := (blk_cell hN1 3).trans rfl
                have HX1 := Lib.hid hX1
                have HT1 := Lib.hid hT1
                have HN1 := Lib.hid hN1
                have HB1 := Lib.hid hb1
                clear hX1 hT1 hN1 hb1 hW1
                go_upto_region 19 with fail
                obtain ⟨W2, hW2⟩ : ∃ W, W = W1.setCell ⟨wr.heap.size, 3, none⟩ (.int .i64 (p3 + 1)) := ⟨_, rfl⟩
                have hX2 : W2.heap[gb]? = some (.cells #[.int .i64 p0, .int .i64 p1, .int .i64 p2, .int .i64 p3, .slice A6 p4.length c6] 28 (0, 0)) := by rw [hW2]; exact (heap_setCell_other _ _ _ _ (show gb ≠ wr.heap.size by omega)).trans HX1.out
                have hT2 : W2.heap[gt]? = some (.cells #[.int .i64 p0, .int .i64 (p1 + 1), .int .i64 (p2), .int .i64 (p3 + 1), .slice A7 p4.length c7] 28 (0, 0)) := by rw [hW2]; exact (heap_setCell_other _ _ _ _ (show gt ≠ wr.heap.size by omega)).trans HT1.out
                have hN2 : W2.heap[wr.heap.size]? = some (.cells #[.int .i64 p0, .int .i64 p1, .int .i64 p2, .int .i64 (p3 + 1), .slice A6 p4.length c6] 28 (0, 0)) := by rw [hW2]; exact blk_put HN1.out 3 _ rfl
                have hb2 : Below wr.heap.size wr W2 := by rw [hW2]; exact HB1.out.setCell (Nat.le_refl _) _
                rw [← hW2]
                clear c3 y3 z3 hW2
                have c1 : W2.cell? ⟨gb, 1, none⟩ = some (.int .i64 p1) := (blk_cell hX2 1).trans rfl
                have y1 : W2.frozen? ⟨wr.heap.size, 1, none⟩ = false := blk_frozen hN2 1
                have z1 : W2.cell? ⟨wr.heap.size, 1, none⟩ = some (.int .i64 p1) := (blk_cell hN2 1).trans rfl
                have HX2 := Lib.hid hX2
                have HT2 := Lib.hid hT2
                have HN2 := Lib.hid hN2
                have HB2 := Lib.hid hb2
                clear hX2 hT2 hN2 hb2
                go_upto_region 22 with fail
                obtain ⟨W3, hW3⟩ : ∃ W, W = W2.setCell ⟨wr.heap.size, 1, none⟩ (.int .i64 (p1 + 1)) := ⟨_, rfl⟩
                have hT3 : W3.heap[gt]? = some (.cells #[.int .i64 p0, .int .i64 (p1 + 1), .int .i64 (p2), .int .i64 (p3 + 1), .slice A7 p4.length c7] 28 (0, 0)) := by rw [hW3]; exact (heap_setCell_other _ _ _ _ (show gt ≠ wr.heap.size by omega)).trans HT2.out
                have hN3b : W3.heap[wr.heap.size]? = some (.cells #[.int .i64 p0, .int .i64 (p1 + 1), .int .i64 (p2), .int .i64 (p3 + 1), .slice A6 p4.length c6] 28 (0, 0)) := by rw [hW3]; exact blk_put HN2.out 1 _ rfl
                have hb3 : Below wr.heap.size wr W3 := by rw [hW3]; exact HB2.out.setCell (Nat.le_refl _) _
                rw [← hW3]
                clear c1 y1 z1 hW3
                have a0 : W3.cell? ⟨gt, 0, none⟩ = some (.int .i64 p0) := (blk_cell hT3 0).trans rfl
                have n0 : W3.cell? ⟨wr.heap.size, 0, none⟩ = some (.int .i64 p0) := (blk_cell hN3b 0).trans rfl
                have a1 : W3.cell? ⟨gt, 1, none⟩ = some (.int .i64 (p1 + 1)) := (blk_cell hT3 1).trans rfl
                have n1 : W3.cell? ⟨wr.heap.size, 1, none⟩ = some (.int .i64 (p1 + 1)) := (blk_cell hN3b 1).trans rfl
                have a2 : W3.cell? ⟨gt, 2, none⟩ = some (.int .i64 (p2)) := (blk_cell hT3 2).trans rfl
                have n2 : W3.cell? ⟨wr.heap.size, 2, none⟩ = some (.int .i64 (p2)) := (blk_cell hN3b 2).trans rfl
                have a3 : W3.cell? ⟨gt, 3, none⟩ = some (.int .i64 (p3 + 1)) := (blk_cell hT3 3).trans rfl
                have n3 : W3.cell? ⟨wr.heap.size, 3, none⟩ = some (.int .i64 (p3 + 1)) := (blk_cell hN3b 3).trans rfl
                have a4 : W3.cell? ⟨gt, 4, none⟩ = some (.slice A7 p4.length c7) := (blk_cell hT3 4).trans rfl
                have n4 : W3.cell? ⟨wr.heap.size, 4, none⟩ = some (.slice A6 p4.length c6) := (blk_cell hN3b 4).trans rfl
                have hbs3 : Below ws.heap.size ws W3 := HBR.out.trans (hb3.mono HBR.out.size)
                have hsame := headgateref16_Same.calls (p4.length + 1) p0 (p1 + 1) (p2) (p3 + 1) A7 c7 p4 p0 (p1 + 1) (p2) (p3 + 1) A6 c6 p4 true W3 (Kd.C_below HC7s.out hbs3) (Kd.R_reads' HR7.out).2.1 (Kd.C_below HC4s.out hbs3) HCC6.out.2.1 (same_state ⟨p0, p1 + 1, p2, p3 + 1, p4⟩ (by have := HI.out.len; simp only at this ⊢; omega))
                have HSAME := Lib.hid hsame
                have HB3 := Lib.hid (HBt.out.trans (hb3.mono HBt.out.size))
                clear hT3 hN3b hb3 hbs3 hsame
                go_wp2_with (first | (go_at_call 18; go_loud ((with_reducible refine HSAME.out.mono ?_); rintro e wm ⟨rfl, hbm⟩; have HBM := Lib.hid hbm; clear hbm)) | (go_at_call 20; go_loud ((with_reducible refine (awake_calls _).mono ?_); rintro e w9 ⟨rfl, hb9⟩)))
                go_ret
                exact ⟨rfl, (HB3.out.trans (HBM.out.mono HB3.out.size)).trans (hb9.mono (Nat.le_trans HB3.out.size HBM.out.size))⟩
              | true =>
                have hXt := blk_below HXs.out HBR.out
                have hTt := blk_below HTs.out HBR.out
                have hBt := HBs.out.trans (HBR.out.mono HBs.out.size)
                have hp3 : 0 ≤ p3 := HI.out.n0
                have hp1 : 0 ≤ p1 := HI.out.late
                have hp2 : 0 ≤ p2 := HI.out.bad
                have hlb : p1 + p2 ≤ p3 := HI.out.lb
                have hn3 := HN3.out
                have hw3 : IntKind.i64.wrap (p3 + 1) = p3 + 1 := by rw [IntKind.wrap_i64]; omega
                obtain ⟨h2, h3⟩ := HLA.out (by rw [HFU.out]; rfl)
                have a2 : wr.cell? ⟨gt, 2, none⟩ = some (.int .i64 p2) := by rw [← h2]; exact (blk_cell hTt 2).trans rfl
                have a3 : wr.cell? ⟨gt, 3, none⟩ = some (.int .i64 (p3 + 1)) := by rw [← h3]; exact (blk_cell hTt 3).trans rfl
                have c2 : wr.cell? ⟨gb, 2, none⟩ = some (.int .i64 p2) := (blk_cell hXt 2).trans rfl
                have c3 : wr.cell? ⟨gb, 3, none⟩ = some (.int .i64 p3) := (blk_cell hXt 3).trans rfl
                have HBt := Lib.hid hBt
                clear hXt hTt hBt h2 h3 hp1 hp2 hlb
                go_wp2_with (first | (go_at_call 20; go_loud ((with_reducible refine (awake_calls _).mono ?_); rintro e w9 ⟨rfl, hb9⟩)))
                go_ret
                exact ⟨rfl, HBt.out.trans (hb9.mono HBt.out.size)⟩
          have d1 : decide ((i : Int) < (S.length : Int)) = true := decide_eq_true (by omega)
          have hwi : IntKind.i64.wrap ((i : Int) + 1) = (i : Int) + 1 := by rw [IntKind.wrap_i64]; omega
          obtain ⟨ad, had, hx⟩ := Kd.at_int (Kd.C_below HCS.out hbr) (i : Int) (by omega) (by omega)
          cases had
          rw [Int.toNat_natCast] at hx
          have hstep := any_step (fun a => !closedP g a p0) S i hlt
          rw [hb, ← rdI S i hlt] at hstep
          obtain ⟨x, hx2⟩ : ∃ x, rd S (i : Int) = x := ⟨_, rfl⟩
          rw [hx2] at hx hstep
          have hcl := fun w => closedRef_calls g HGR.out x p0 HMK.out.1 HMK.out.2 w
          obtain ⟨cb, hcb⟩ : ∃ b, closedP g x p0 = b := ⟨_, rfl⟩
          rw [hcb] at hcl
          simp only [hcb] at hstep
          have hbi : (0 : Int) ≤ (i : Int) ∧ (i : Int) < (S.length : Int) := by omega
          have HX1 := Lib.hid hx
          have HG0 := Lib.hid (show wr.cell? ⟨w.heap.size, 0, none⟩ = some (.int .i64 g.f0) from (blk_cell (blk_below HGs.out hbr) 0).trans rfl)
          have HG1 := Lib.hid (show wr.cell? ⟨w.heap.size, 1, none⟩ = some (.int .i64 g.f1) from (blk_cell (blk_below HGs.out hbr) 1).trans rfl)
          have HG2 := Lib.hid (show wr.cell? ⟨w.heap.size, 2, none⟩ = some (.int .i64 g.f2) from (blk_cell (blk_below HGs.out hbr) 2).trans rfl)
          have HP0 := Lib.hid (show wr.cell? ⟨gb, 0, none⟩ = some (.int .i64 p0) from (blk_cell (blk_below HXs.out hbr) 0).trans rfl)
          have HCL := Lib.hid hcl
          have HBR := Lib.hid hbr
          have HSTEP := Lib.hid hstep
          cases gk with
          | zero => omega
          | succ gk =>
          clear hcl hbr hx hx2 hcb hstep hb
          cases b with
          | true =>
            go_wp2
            obtain ⟨WX, hWX⟩ : ∃ W, W = wr := ⟨_, rfl⟩
            subst hWX
            refine wp_region_held_drew (S := fun w_ => Below WX.heap.size WX w_) (by kernel_rfl) (below_drew (Below.refl _ _)) (fun hS_ => ?_)
            have hS : Below WX.heap.size WX _ := hS_
            clear hS_
            change wpAnyH _ _ _ _ _ 13 #[false, false, false, false, false, false, false, false, false, false, false, false, false] _ _
            refine takeE 0 (some 66) #[true, false, false, false, false, false, false, false, false, false, false, false, false] hS ?_
            refine takeE 1 (some 67) #[true, true, false, false, false, false, false, false, false, false, false, false, false] hS ?_
            refine offE 2 (some 68) #[true, true, true, false, false, false, false, false, false, false, false, false, false] hS ?_
            refine offE 3 (some 69) #[true, true, true, true, false, false, false, false, false, false, false, false, false] hS ?_
            refine offE 4 (some 70) #[true, true, true, true, true, false, false, false, false, false, false, false, false] hS ?_
            refine offE 5 (some 71) #[true, true, true, true, true, true, false, false, false, false, false, false, false] hS ?_
            refine offE 6 (some 72) #[true, true, true, true, true, true, true, false, false, false, false, false, false] hS ?_
            refine offE 7 (some 73) #[true, true, true, true, true, true, true, true, false, false, false, false, false] hS ?_
            refine offE 8 (some 74) #[true, true, true, true, true, true, true, true, true, false, false, false, false] hS ?_
            refine offE 9 (some 75) #[true, true, true, true, true, true, true, true, true, true, false, false, false] hS ?_
            refine offE 10 (some 76) #[true, true, true, true, true, true, true, true, true, true, true, false, false] hS ?_
            refine takeE 11 (some 77) #[true, true, true, true, true, true, true, true, true, true, true, true, false] hS ?_
            refine takeE 12 (some 17) #[true, true, true, true, true, true, true, true, true, true, true, true, true] hS ?_
            refine wpAnyH_done (by kernel_rfl) ?_ _
            try go_simp
            go_wp2
            go_roundg gk
            case measure => omega
            case rel => exact ⟨i + 1, true, rfl, HSTEP.out, by first | rfl | (congr 1), by omega, by omega, HBR.out.trans (hS.mono HBR.out.size)⟩
          | false =>
            go_wp2
            obtain ⟨WX, hWX⟩ : ∃ W, W = wr := ⟨_, rfl⟩
            subst hWX
            refine wp_region_held_drew (S := fun w_ => Below WX.heap.size WX w_) (by kernel_rfl) (below_drew (Below.refl _ _)) (fun hS_ => ?_)
            have hS : Below WX.heap.size WX _ := hS_
            clear hS_
            change wpAnyH _ _ _ _ _ 13 #[false, false, false, false, false, false, false, false, false, false, false, false, false] _ _
            refine takeE 0 (some 66) #[true, false, false, false, false, false, false, false, false, false, false, false, false] hS ?_
            refine takeE 1 (some 67) #[true, true, false, false, false, false, false, false, false, false, false, false, false] hS ?_
            refine takeE 2 (some 68) #[true, true, true, false, false, false, false, false, false, false, false, false, false] hS ?_ (hy := fun w_ hS_ => by (replace hS_ : Below WX.heap.size WX w_ := hS_); have a0_ := below_cell hS_ HG0.out; have a1_ := below_cell hS_ HG1.out; have a2_ := below_cell hS_ HG2.out; go_simp <;> with_reducible rfl)
            refine takeE 3 (some 69) #[true, true, true, true, false, false, false, false, false, false, false, false, false] hS ?_
            refine takeE 4 (some 70) #[true, true, true, true, true, false, false, false, false, false, false, false, false] hS ?_
            refine takeE 5 (some 71) #[true, true, true, true, true, true, false, false, false, false, false, false, false] hS ?_
            refine takeE 6 (some 72) #[true, true, true, true, true, true, true, false, false, false, false, false, false] hS ?_ (hy := fun w_ hS_ => by (replace hS_ : Below WX.heap.size WX w_ := hS_); have a3_ := below_cell hS_ HX1.out; go_simp <;> with_reducible rfl)
            refine takeE 7 (some 73) #[true, true, true, true, true, true, true, true, false, false, false, false, false] hS ?_
            refine takeE 8 (some 74) #[true, true, true, true, true, true, true, true, true, false, false, false, false] hS ?_ (hy := fun w_ hS_ => by (replace hS_ : Below WX.heap.size WX w_ := hS_); have a4_ := below_cell hS_ HP0.out; go_simp <;> with_reducible rfl)
            refine doD (i := 9) (ls2 := #[true, true, true, true, true, true, true, true, true, true, false, false, false]) (by kernel_rfl) rfl (by kernel_rfl) (by kernel_rfl) (fun K hK => ?_)
            go_simp
            go_wp2_with (first | (go_at_call 22; go_loud ((with_reducible refine (HCL.out _).mono ?_); rintro e w3 ⟨rfl, hb3⟩)))
            refine hK.out _ _ ?_ (fun hS_ => ?_)
            · show Below WX.heap.size WX _
              exact hS.trans (hb3.mono hS.size)
            clear hK K hS hb3
            have hS : Below WX.heap.size WX _ := hS_
            clear hS_
            refine takeE 10 (some 76) #[true, true, true, true, true, true, true, true, true, true, true, false, false] hS ?_
            refine takeE 11 (some 77) #[true, true, true, true, true, true, true, true, true, true, true, true, false] hS ?_
            refine takeE 12 (some 17) #[true, true, true, true, true, true, true, true, true, true, true, true, true] hS ?_
            refine wpAnyH_done (by kernel_rfl) ?_ _
            try go_simp
            go_wp2
            go_roundg gk
            case measure => omega
            case rel => exact ⟨i + 1, !cb, by first | rfl | (cases cb <;> rfl), HSTEP.out, by first | rfl | (congr 1), by omega, by omega, HBR.out.trans (hS.mono HBR.out.size)⟩
end Go.Proofs.Ytgipepjpkmlmaaa.P
