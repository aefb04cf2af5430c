import Derived.Test.YtgipepjpkmlmaaaE20
import Derived.Test.YtgipepjpkmlmaaaE23
namespace Go.Proofs.Ytgipepjpkmlmaaa.P
open Go.RowKit Go.Proofs.YtgipepjpkmlmaaaW.PrintWords Go.Proofs.YtgipepjpkmlmaaaW.PrintLast Go.Proofs.YtgipepjpkmlmaaaW.PrintMore
set_option linter.unusedVariables false
set_option linter.unusedSimpArgs false

theorem cut_C {w : World} {A : Option Addr} {xs : List S50} {m c : Nat} (h : k50.C w A xs.length xs) (hm : m ≤ xs.length) (hc : xs.length ≤ c) : k50.C w (if c = m then A else A.map (·.add (m * 3))) (xs.drop m).length (xs.drop m) := by
  have hl : (xs.drop m).length = xs.length - m := List.length_drop
  refine ⟨rfl, by rw [hl]; have := h.2.1; omega, fun hp => ?_⟩
  rw [hl] at hp
  obtain ⟨ad, rfl, hcell⟩ := h.2.2 (by omega)
  rw [if_neg (by omega)]
  refine ⟨ad.add (m * 3), rfl, fun j p hj => ?_⟩
  rw [List.getElem?_drop] at hj
  obtain ⟨cs, h1, h2, h3⟩ := hcell (m + j) p hj
  refine ⟨cs, h1, h2, fun i u hu => ?_⟩
  have e : k50.sz = 3 := rfl
  rw [e] at h3 ⊢
  rw [add_add, show m * 3 + (j * 3 + i) = (m + j) * 3 + i by omega]
  exact h3 i u hu
theorem cells5 {w : World} {g t : Nat} {a0 a1 a2 a3 a4 : Value} (h : w.heap[g]? = some (.cells #[a0, a1, a2, a3, a4] t (0, 0))) :
    w.cell? ⟨g, 0, none⟩ = some a0 ∧ w.cell? ⟨g, 1, none⟩ = some a1 ∧ w.cell? ⟨g, 2, none⟩ = some a2 ∧ w.cell? ⟨g, 3, none⟩ = some a3 ∧ w.cell? ⟨g, 4, none⟩ = some a4 :=
  ⟨(blk_cell h 0).trans rfl, (blk_cell h 1).trans rfl, (blk_cell h 2).trans rfl, (blk_cell h 3).trans rfl, (blk_cell h 4).trans rfl⟩
theorem cells3 {w : World} {g t : Nat} {a0 a1 a2 : Value} (h : w.heap[g]? = some (.cells #[a0, a1, a2] t (0, 0))) :
    w.cell? ⟨g, 0, none⟩ = some a0 ∧ w.cell? ⟨g, 1, none⟩ = some a1 ∧ w.cell? ⟨g, 2, none⟩ = some a2 :=
  ⟨(blk_cell h 0).trans rfl, (blk_cell h 1).trans rfl, (blk_cell h 2).trans rfl⟩
set_option maxHeartbeats 16000000 in
set_option maxRecDepth 100000 in
theorem engineParts_walk (g : S23) (A : Option Addr) (c : Nat) (l : List S50) (cut : Int) (w : World) (hr : k50.C w A l.length l) (hc : l.length ≤ c) (hwf : (Lit.int .i64 cut).wf = true) :
    Calls Try.prog 4 #[gridV g, .slice A l.length c, .int .i64 cut] w fun e w' => e = .returned (.bool true) ∧ Below w.heap.size w w' := by
  have h16 := fun w => engine_Zero.calls (-1) 0 0 0 [] w rfl
  have H16 := Lib.hid h16
  obtain ⟨WB, hWB⟩ : ∃ W, W = w.alloc (.cells #[.int .i64 g.f0, .int .i64 g.f1, .int .i64 g.f2] 23) := ⟨_, rfl⟩
  have hgB : WB.heap[w.heap.size]? = some (.cells #[.int .i64 g.f0, .int .i64 g.f1, .int .i64 g.f2] 23 (0, 0)) := by rw [hWB]; exact heap_alloc_new _ _
  have hbB : Below w.heap.size w WB := by rw [hWB]; exact (Below.refl _ _).alloc (Nat.le_refl _) _
  have hsome := some_calls A c l WB (Kd.C_below hr hbB) hc
  obtain ⟨L, hL⟩ : ∃ L, someP l = L := ⟨_, rfl⟩
  have hLl := someP_length l
  have hLs := someP_size l
  rw [hL] at hsome hLl hLs
  have HSOME := Lib.hid hsome
  have HWB := Lib.hid hWB
  have HGB0 := Lib.hid hgB
  have HBB := Lib.hid hbB
  have HLS := Lib.hid hLs
  have hcr : -9223372036854775808 ≤ cut ∧ cut ≤ 9223372036854775807 := by
    unfold Lit.wf at hwf
    simp only [Bool.and_eq_true, decide_eq_true_eq] at hwf
    exact hwf
  obtain ⟨k, hk, hkv⟩ := cut_place cut (L.length : Int) hcr.1 hcr.2 (by omega) (by omega)
  have HKV := Lib.hid hkv
  clear h16 hsome hWB hgB hbB hL hLs hr hc hwf hcr hkv
  have hkl : k ≤ L.length := by omega
  go_enter Try.func4, Try.ntmps4
  go_upto_region 2 with (first | (go_at_call 14; go_loud (rw [← HWB.out]; (with_reducible refine HSOME.out.mono ?_); rintro e WX ⟨v1, rfl, hR1, hb1⟩; obtain ⟨A1, c1, rfl, hc1, hL1⟩ := Kd.R_reads hR1; have HGX := Lib.hid (blk_below HGB0.out hb1); have HL1 := Lib.hid hL1; have HBX := Lib.hid (HBB.out.trans (hb1.mono HBB.out.size)); clear hR1 hL1 hb1)))
  have hrun : ∀ (W : World) (A : Option Addr) (c : Nat), (A = none → ([] : List S46) = [] ∧ c = 0) → k50.C W A1 L.length L → Calls Try.prog 15 #[.agg #[.int .i64 g.f0, .int .i64 g.f1, .int .i64 g.f2], .agg #[.int .i64 (-1), .int .i64 0, .int .i64 0, .int .i64 0, .slice A 0 c], .slice A1 L.length c1] W (FedP W (runP g awZ L)) :=
    fun W A c hn hB => run_calls g awZ L A A1 c c1 W (C_nil46 W A) (Nat.zero_le _) (by decide) hn hB hc1 (by omega) (fun r h => Nat.le_trans (HLS.out r h) (by omega))
  have hrun2 : ∀ (W : World) (A : Option Addr) (c : Nat), (A = none → ([] : List S46) = [] ∧ c = 0) → k50.C W A1 L.length L → Calls Try.prog 15 #[.agg #[.int .i64 g.f0, .int .i64 g.f1, .int .i64 g.f2], .agg #[.int .i64 (-1), .int .i64 0, .int .i64 0, .int .i64 0, .slice A 0 c], .slice A1 k c1] W (FedP W (runP g awZ (L.take k))) := by
    intro W A c hn hB
    have hl : (L.take k).length = k := by rw [List.length_take]; omega
    have h := run_calls g awZ (L.take k) A A1 c c1 W (C_nil46 W A) (Nat.zero_le _) (by decide) hn (by rw [hl]; exact take_C hB k hkl) (by omega) (by omega) (fun r h => Nat.le_trans (HLS.out r (List.mem_of_mem_take h)) (by omega))
    rw [hl] at h
    exact h
  obtain ⟨BP, hBP⟩ : ∃ B, (if c1 = k then A1 else A1.map (·.add (k * 3))) = B := ⟨_, rfl⟩
  have HBP0 := Lib.hid hBP
  clear hBP
  have hrun3 : ∀ (s : S28) (W : World) (A : Option Addr) (c : Nat), s.f4.length ≤ c → s.f4.length ≤ 1000 → (A = none → s.f4 = [] ∧ c = 0) → k46.C W A s.f4.length s.f4 → k50.C W A1 L.length L →
      Calls Try.prog 15 #[.agg #[.int .i64 g.f0, .int .i64 g.f1, .int .i64 g.f2], .agg #[.int .i64 s.f0, .int .i64 s.f1, .int .i64 s.f2, .int .i64 s.f3, .slice A s.f4.length c], .slice BP (L.length - k) (c1 - k)] W (FedP W (runP g s (L.drop k))) := by
    intro s W A c hcs hcl hn hC hB
    have hl : (L.drop k).length = L.length - k := List.length_drop
    have h := run_calls g s (L.drop k) A (if c1 = k then A1 else A1.map (·.add (k * 3))) c (c1 - k) W hC hcs hcl hn (cut_C hB hkl hc1) (by omega) (by omega) (fun r h => Nat.le_trans (HLS.out r (List.mem_of_mem_drop h)) (by omega))
    rw [hl, HBP0.out] at h
    exact h
  have hparts := parts_law g L k (by omega)
  have herr := run_err_o g L awZ
  have hlen := run_len_p g L awZ (by decide)
  obtain ⟨P, hP⟩ : ∃ P, runP g awZ L = P := ⟨_, rfl⟩
  obtain ⟨Q, hQ⟩ : ∃ P, runP g awZ (L.take k) = P := ⟨_, rfl⟩
  rw [hP] at hrun hparts herr hlen
  rw [hQ] at hrun2 hparts
  obtain ⟨⟨p0, p1, p2, p3, p4⟩, po, pe⟩ := P
  obtain ⟨⟨q0, q1, q2, q3, q4⟩, qo, qe⟩ := Q
  simp only at hparts herr hlen
  have HRUN := Lib.hid hrun
  have HRUN2 := Lib.hid hrun2
  have HRUN3 := Lib.hid hrun3
  have HER := Lib.hid herr
  have HLEN := Lib.hid hlen
  have HPT := Lib.hid hparts
  clear hrun hrun2 hrun3 herr hlen hparts hP hQ
  go_cut [7, 8, 9] from 20 to 27 (fun v5 v6 v7 wc => RunRes WX wc (⟨p0, p1, p2, p3, p4⟩, po, pe) v5 v6 v7 ∧ Below WX.heap.size WX wc)
  case first =>
    refine wp_region_held_drew (S := fun w_ => Below WX.heap.size WX w_) (by kernel_rfl) (below_drew (Below.refl _ _)) (fun hS_ => ?_)
    have hS : Below WX.heap.size WX _ := hS_
    clear hS_
    change wpAnyH _ _ _ _ _ 12 #[false, false, false, false, false, false, false, false, false, false, false, false] _ _
    refine takeE 0 (some 21) #[true, false, false, false, false, false, false, false, false, false, false, false] hS ?_ (hy := fun w_ hS_ => by (replace hS_ : Below WX.heap.size WX w_ := hS_); have q_ := blk_below HGX.out hS_; have q0_ : w_.cell? ⟨w.heap.size, 0, none⟩ = some (.int .i64 g.f0) := (blk_cell q_ 0).trans rfl; have q1_ : w_.cell? ⟨w.heap.size, 1, none⟩ = some (.int .i64 g.f1) := (blk_cell q_ 1).trans rfl; have q2_ : w_.cell? ⟨w.heap.size, 2, none⟩ = some (.int .i64 g.f2) := (blk_cell q_ 2).trans rfl; go_simp <;> with_reducible rfl)
    refine takeE 2 (some 23) #[true, false, true, false, false, false, false, false, false, false, false, false] hS ?_
    refine doD2 (i := 1) (j := 8) (l2 := #[true, true, true, false, false, false, false, false, false, false, false, false]) (l3 := #[true, false, true, false, false, false, false, false, true, false, false, false]) (by kernel_rfl) rfl rfl (by kernel_rfl) (by kernel_rfl) (by kernel_rfl) (by kernel_rfl) (fun K hK => ?_) (fun K hK => ?_)
    · go_simp
      go_wp2_with (first | (go_at_call 16; go_loud ((with_reducible refine (H16.out _).mono ?_); rintro e wq1 ⟨vz, rfl, hRz, hb1⟩; obtain ⟨Az, cz, rfl, hcz, _⟩ := Kd.R_reads hRz; have HNZ := Lib.hid (R_nil26 hRz); clear hRz hcz)))
      refine hK.out _ _ ?_ (fun hS_ => ?_)
      · show Below WX.heap.size WX _
        exact hS.trans (hb1.mono hS.size)
      clear hK K hS
      have hS : Below WX.heap.size WX _ := hS_
      clear hS_
      clear hb1
      refine doD2 (i := 3) (j := 8) (l2 := #[true, true, true, true, false, false, false, false, false, false, false, false]) (l3 := #[true, true, true, false, false, false, false, false, true, false, false, false]) (by kernel_rfl) rfl rfl (by kernel_rfl) (by kernel_rfl) (by kernel_rfl) (by kernel_rfl) (fun K hK => ?_) (fun K hK => ?_)
      · go_simp
        go_wp2_with (first | (go_at_call 15; go_loud ((with_reducible refine (HRUN.out _ _ _ HNZ.out (Kd.C_below HL1.out hS)).mono ?_); have HSS := Lib.hid hS.size; rintro e wr ⟨v6, vo, rfl, hR6, hRo, hb6⟩; obtain ⟨A6, c6, rfl, hc6, _⟩ := Kd.R_reads hR6; obtain ⟨Ao, co, rfl, hco, _⟩ := Kd.R_reads hRo; have HR4 := Lib.hid (R_base hR6 HSS.out (Nat.le_refl _)); have HR6 := Lib.hid (R_base hRo HSS.out (Nat.le_refl _)); clear hR6 hRo hc6 hco)))
        refine hK.out _ _ ?_ (fun hS_ => ?_)
        · show Below WX.heap.size WX _
          exact hS.trans (hb6.mono hS.size)
        clear hK K hS
        have hS : Below WX.heap.size WX _ := hS_
        clear hS_
        clear hb6
        refine takeE 4 (some 20) #[true, true, true, true, true, false, false, false, false, false, false, false] hS ?_
        refine takeE 5 (some 25) #[true, true, true, true, true, true, false, false, false, false, false, false] hS ?_
        refine takeE 6 (some 26) #[true, true, true, true, true, true, true, false, false, false, false, false] hS ?_
        refine takeE 7 (some 27) #[true, true, true, true, true, true, true, true, false, false, false, false] hS ?_
        have hSr := Lib.hid hS
        refine doD (i := 8) (ls2 := #[true, true, true, true, true, true, true, true, true, false, false, false]) (by kernel_rfl) rfl (by kernel_rfl) (by kernel_rfl) (fun K hK => ?_)
        go_simp
        refine hK.out _ _ ?_ (fun hS_ => ?_)
        · show Below WX.heap.size WX _
          exact hS.alloc hS.size _
        clear hK K hS
        have hS : Below WX.heap.size WX _ := hS_
        clear hS_
        refine doD (i := 9) (ls2 := #[true, true, true, true, true, true, true, true, true, true, false, false]) (by kernel_rfl) rfl (by kernel_rfl) (by kernel_rfl) (fun K hK => ?_)
        go_simp
        refine hK.out _ _ ?_ (fun hS_ => ?_)
        · show Below WX.heap.size WX _
          exact (hSr.out).alloc hSr.out.size _
        clear hK K hS
        have hS : Below WX.heap.size WX _ := hS_
        clear hS_
        refine takeE 10 (some 8) #[true, true, true, true, true, true, true, true, true, true, true, false] hS ?_
        refine takeE 11 (some 9) #[true, true, true, true, true, true, true, true, true, true, true, true] hS ?_
        refine wpAnyH_done (by kernel_rfl) ?_ _
        go_wp2
        go_meet
        case rel =>
          have h4 := R_ok (ok2 := fun _ => True) (Kd.R_below HR4.out ((Below.refl _ _).alloc (Nat.le_refl _) (.cells #[.int .i64 p0, .int .i64 p1, .int .i64 p2, .int .i64 p3, .slice A6 p4.length c6] 28))) (fun _ _ => trivial)
          have h6 := R_ok (ok2 := fun _ => True) (Kd.R_below HR6.out ((Below.refl _ _).alloc (Nat.le_refl _) (.cells #[.int .i64 p0, .int .i64 p1, .int .i64 p2, .int .i64 p3, .slice A6 p4.length c6] 28))) (fun _ _ => trivial)
          exact ⟨⟨rfl, ⟨_, A6, c6, rfl, heap_alloc_new _ _, h4⟩, ⟨_, _, rfl, h6⟩⟩, hS⟩
      · have hgbl := Lib.hid hS.size
        go_simp
        refine hK.out _ _ ?_ (fun hS_ => ?_)
        · show Below WX.heap.size WX _
          exact hS.alloc hS.size _
        clear hK K hS
        have hS : Below WX.heap.size WX _ := hS_
        clear hS_
        have HGB := hgbl
        clear hgbl
        refine doD (i := 3) (ls2 := #[true, true, true, true, false, false, false, false, true, false, false, false]) (by kernel_rfl) rfl (by kernel_rfl) (by kernel_rfl) (fun K hK => ?_)
        go_simp
        go_wp2_with (first | (go_at_call 15; go_loud ((with_reducible refine (HRUN.out _ _ _ HNZ.out (Kd.C_below HL1.out hS)).mono ?_); have hz0 := heap_alloc_new wq1 (.cells #[.int .i64 0, .int .i64 0, .int .i64 0, .int .i64 0, .slice none 0 0] 28); have HZ := Lib.hid hz0; clear hz0; have HSS := Lib.hid hS.size; rintro e wr ⟨v6, vo, rfl, hR6, hRo, hb6⟩; obtain ⟨A6, c6, rfl, hc6, _⟩ := Kd.R_reads hR6; obtain ⟨Ao, co, rfl, hco, _⟩ := Kd.R_reads hRo; have HR4 := Lib.hid (R_base hR6 HSS.out (Nat.le_refl _)); have HR6 := Lib.hid (R_base hRo HSS.out (Nat.le_refl _)); have HZL := Lib.hid (lt_of_block HZ.out); have hz6 := blk_below HZ.out hb6; have z0_ : wr.cell? ⟨_, 0, none⟩ = some (.int .i64 0) := (blk_cell hz6 0).trans rfl; have z1_ : wr.cell? ⟨_, 1, none⟩ = some (.int .i64 0) := (blk_cell hz6 1).trans rfl; have z2_ : wr.cell? ⟨_, 2, none⟩ = some (.int .i64 0) := (blk_cell hz6 2).trans rfl; have z3_ : wr.cell? ⟨_, 3, none⟩ = some (.int .i64 0) := (blk_cell hz6 3).trans rfl; have z4_ : wr.cell? ⟨_, 4, none⟩ = some (.slice none 0 0) := (blk_cell hz6 4).trans rfl; have y0_ : wr.frozen? ⟨_, 0, none⟩ = false := blk_frozen hz6 0; have y1_ : wr.frozen? ⟨_, 1, none⟩ = false := blk_frozen hz6 1; have y2_ : wr.frozen? ⟨_, 2, none⟩ = false := blk_frozen hz6 2; have y3_ : wr.frozen? ⟨_, 3, none⟩ = false := blk_frozen hz6 3; have y4_ : wr.frozen? ⟨_, 4, none⟩ = false := blk_frozen hz6 4; replace HZ := Lib.hid hz6; clear hz6; clear hR6 hRo hc6 hco)))
        refine hK.out _ _ ?_ (fun hS_ => ?_)
        · show Below WX.heap.size WX _
          exact hS.trans (hb6.mono hS.size)
        clear hK K hS
        have hS : Below WX.heap.size WX _ := hS_
        clear hS_
        clear hb6
        refine takeE 4 (some 20) #[true, true, true, true, true, false, false, false, true, false, false, false] hS ?_
        refine takeE 5 (some 25) #[true, true, true, true, true, true, false, false, true, false, false, false] hS ?_
        refine takeE 6 (some 26) #[true, true, true, true, true, true, true, false, true, false, false, false] hS ?_
        refine takeE 7 (some 27) #[true, true, true, true, true, true, true, true, true, false, false, false] hS ?_
        refine doD (i := 9) (ls2 := #[true, true, true, true, true, true, true, true, true, true, false, false]) (by kernel_rfl) rfl (by kernel_rfl) (by kernel_rfl) (fun K hK => ?_)
        go_simp
        refine hK.out _ _ ?_ (fun hS_ => ?_)
        · show Below WX.heap.size WX _
          exact put5_belowZ hS HZ.out (by have h0 := HGB.out; first | omega | (simp at h0; omega)) (.int .i64 p0) (.int .i64 p1) (.int .i64 p2) (.int .i64 p3) (.slice A6 p4.length c6)
        clear hK K hS
        have hS : Below WX.heap.size WX _ := hS_
        clear hS_
        refine takeE 10 (some 8) #[true, true, true, true, true, true, true, true, true, true, true, false] hS ?_
        refine takeE 11 (some 9) #[true, true, true, true, true, true, true, true, true, true, true, true] hS ?_
        refine wpAnyH_done (by kernel_rfl) ?_ _
        go_wp2
        go_meet
        case rel =>
          have h4 := R_ok (ok2 := fun _ => True) (R_other HR4.out (fun k hk => put5_otherZ HZ.out (by have := HZL.out; omega) (.int .i64 p0) (.int .i64 p1) (.int .i64 p2) (.int .i64 p3) (.slice A6 p4.length c6))) (fun _ _ => trivial)
          have h6 := R_ok (ok2 := fun _ => True) (R_other HR6.out (fun k hk => put5_otherZ HZ.out (by have := HZL.out; omega) (.int .i64 p0) (.int .i64 p1) (.int .i64 p2) (.int .i64 p3) (.slice A6 p4.length c6))) (fun _ _ => trivial)
          exact ⟨⟨rfl, ⟨_, A6, c6, rfl, put5_heap HZ.out (.int .i64 p0) (.int .i64 p1) (.int .i64 p2) (.int .i64 p3) (.slice A6 p4.length c6), h4⟩, ⟨_, _, rfl, h6⟩⟩, hS⟩
    · have hgbl := Lib.hid hS.size
      go_simp
      refine hK.out _ _ ?_ (fun hS_ => ?_)
      · show Below WX.heap.size WX _
        exact hS.alloc hS.size _
      clear hK K hS
      have hS : Below WX.heap.size WX _ := hS_
      clear hS_
      have HGB := hgbl
      clear hgbl
      refine doD (i := 1) (ls2 := #[true, true, true, false, false, false, false, false, true, false, false, false]) (by kernel_rfl) rfl (by kernel_rfl) (by kernel_rfl) (fun K hK => ?_)
      go_simp
      go_wp2_with (first | (go_at_call 16; go_loud ((with_reducible refine (H16.out _).mono ?_); rintro e wq1 ⟨vz, rfl, hRz, hb1⟩; obtain ⟨Az, cz, rfl, hcz, _⟩ := Kd.R_reads hRz; have HNZ := Lib.hid (R_nil26 hRz); have hz1 := blk_below (blk_drew (heap_alloc_new _ _)) hb1; have HZ := Lib.hid hz1; clear hz1; clear hRz hcz)))
      refine hK.out _ _ ?_ (fun hS_ => ?_)
      · show Below WX.heap.size WX _
        exact hS.trans (hb1.mono hS.size)
      clear hK K hS
      have hS : Below WX.heap.size WX _ := hS_
      clear hS_
      clear hb1
      refine doD (i := 3) (ls2 := #[true, true, true, true, false, false, false, false, true, false, false, false]) (by kernel_rfl) rfl (by kernel_rfl) (by kernel_rfl) (fun K hK => ?_)
      go_simp
      go_wp2_with (first | (go_at_call 15; go_loud ((with_reducible refine (HRUN.out _ _ _ HNZ.out (Kd.C_below HL1.out hS)).mono ?_); have HSS := Lib.hid hS.size; rintro e wr ⟨v6, vo, rfl, hR6, hRo, hb6⟩; obtain ⟨A6, c6, rfl, hc6, _⟩ := Kd.R_reads hR6; obtain ⟨Ao, co, rfl, hco, _⟩ := Kd.R_reads hRo; have HR4 := Lib.hid (R_base hR6 HSS.out (Nat.le_refl _)); have HR6 := Lib.hid (R_base hRo HSS.out (Nat.le_refl _)); have HZL := Lib.hid (lt_of_block HZ.out); have hz6 := blk_below HZ.out hb6; have z0_ : wr.cell? ⟨_, 0, none⟩ = some (.int .i64 0) := (blk_cell hz6 0).trans rfl; have z1_ : wr.cell? ⟨_, 1, none⟩ = some (.int .i64 0) := (blk_cell hz6 1).trans rfl; have z2_ : wr.cell? ⟨_, 2, none⟩ = some (.int .i64 0) := (blk_cell hz6 2).trans rfl; have z3_ : wr.cell? ⟨_, 3, none⟩ = some (.int .i64 0) := (blk_cell hz6 3).trans rfl; have z4_ : wr.cell? ⟨_, 4, none⟩ = some (.slice none 0 0) := (blk_cell hz6 4).trans rfl; have y0_ : wr.frozen? ⟨_, 0, none⟩ = false := blk_frozen hz6 0; have y1_ : wr.frozen? ⟨_, 1, none⟩ = false := blk_frozen hz6 1; have y2_ : wr.frozen? ⟨_, 2, none⟩ = false := blk_frozen hz6 2; have y3_ : wr.frozen? ⟨_, 3, none⟩ = false := blk_frozen hz6 3; have y4_ : wr.frozen? ⟨_, 4, none⟩ = false := blk_frozen hz6 4; replace HZ := Lib.hid hz6; clear hz6; clear hR6 hRo hc6 hco)))
      refine hK.out _ _ ?_ (fun hS_ => ?_)
      · show Below WX.heap.size WX _
        exact hS.trans (hb6.mono hS.size)
      clear hK K hS
      have hS : Below WX.heap.size WX _ := hS_
      clear hS_
      clear hb6
      refine takeE 4 (some 20) #[true, true, true, true, true, false, false, false, true, false, false, false] hS ?_
      refine takeE 5 (some 25) #[true, true, true, true, true, true, false, false, true, false, false, false] hS ?_
      refine takeE 6 (some 26) #[true, true, true, true, true, true, true, false, true, false, false, false] hS ?_
      refine takeE 7 (some 27) #[true, true, true, true, true, true, true, true, true, false, false, false] hS ?_
      refine doD (i := 9) (ls2 := #[true, true, true, true, true, true, true, true, true, true, false, false]) (by kernel_rfl) rfl (by kernel_rfl) (by kernel_rfl) (fun K hK => ?_)
      go_simp
      refine hK.out _ _ ?_ (fun hS_ => ?_)
      · show Below WX.heap.size WX _
        exact put5_belowZ hS HZ.out (by have h0 := HGB.out; first | omega | (simp at h0; omega)) (.int .i64 p0) (.int .i64 p1) (.int .i64 p2) (.int .i64 p3) (.slice A6 p4.length c6)
      clear hK K hS
      have hS : Below WX.heap.size WX _ := hS_
      clear hS_
      refine takeE 10 (some 8) #[true, true, true, true, true, true, true, true, true, true, true, false] hS ?_
      refine takeE 11 (some 9) #[true, true, true, true, true, true, true, true, true, true, true, true] hS ?_
      refine wpAnyH_done (by kernel_rfl) ?_ _
      go_wp2
      go_meet
      case rel =>
        have h4 := R_ok (ok2 := fun _ => True) (R_other HR4.out (fun k hk => put5_otherZ HZ.out (by have := HZL.out; omega) (.int .i64 p0) (.int .i64 p1) (.int .i64 p2) (.int .i64 p3) (.slice A6 p4.length c6))) (fun _ _ => trivial)
        have h6 := R_ok (ok2 := fun _ => True) (R_other HR6.out (fun k hk => put5_otherZ HZ.out (by have := HZL.out; omega) (.int .i64 p0) (.int .i64 p1) (.int .i64 p2) (.int .i64 p3) (.slice A6 p4.length c6))) (fun _ _ => trivial)
        exact ⟨⟨rfl, ⟨_, A6, c6, rfl, put5_heap HZ.out (.int .i64 p0) (.int .i64 p1) (.int .i64 p2) (.int .i64 p3) (.slice A6 p4.length c6), h4⟩, ⟨_, _, rfl, h6⟩⟩, hS⟩
  case rest =>
    obtain ⟨⟨e0, ⟨gb, A6, c6, rfl, hbox, hR4⟩, ⟨Ao, co, rfl, hRo⟩⟩, hbw⟩ := hcut
    subst e0
    simp only at hbox hR4 hRo
    have HBY := Lib.hid (HBX.out.trans (hbw.mono HBX.out.size))
    have HGY := Lib.hid (blk_below HGX.out hbw)
    have HLY := Lib.hid (Kd.C_below HL1.out hbw)
    have HBP := Lib.hid hbox
    have HP4 := Lib.hid (Kd.R_reads' hR4)
    have HPO := Lib.hid (Kd.R_reads' hRo)
    clear hbox hR4 hRo hbw HRUN HBB HGB0 HWB HSOME HBX HGX HL1 WX
    obtain ⟨WX, hWX⟩ : ∃ W, W = wc := ⟨_, rfl⟩
    subst hWX
    have hnz : ((L.length : Int) + 1 == 0) = false := beq_eq_false_iff_ne.2 (by omega)
    have hnz2 : ¬ (L.length : Int) + 1 = 0 := by omega
    have hwl : IntKind.i64.wrap ((L.length : Int) + 1) = (L.length : Int) + 1 := by rw [IntKind.wrap_i64]; omega
    go_upto_region 3 with fail
    go_cut [10] from 28 to 40 (fun v10 wc => v10 = .int .i64 (k : Int) ∧ WX = wc)
    case first =>
      go_wp2
      go_meet
      case rel => exact ⟨by first | rfl | (rw [HKV.out]) | (rw [← HKV.out]; rfl), rfl⟩
    case rest =>
      obtain ⟨e1, e2⟩ := hcut
      subst e1 e2
      have HGX := HGY
      have HL1 := HLY
      clear HKV hnz hnz2 hwl
      go_upto_region 4 with fail
      go_cut [11, 12, 13] from 41 to 50 (fun v5 v6 v7 wc => RunRes WX wc (⟨q0, q1, q2, q3, q4⟩, qo, qe) v5 v6 v7 ∧ Below WX.heap.size WX wc)
      case first =>
        refine wp_region_held_drew (S := fun w_ => Below WX.heap.size WX w_) (by kernel_rfl) (below_drew (Below.refl _ _)) (fun hS_ => ?_)
        have hS : Below WX.heap.size WX _ := hS_
        clear hS_
        change wpAnyH _ _ _ _ _ 14 #[false, false, false, false, false, false, false, false, false, false, false, false, false, false] _ _
        refine takeE 0 (some 42) #[true, false, false, false, false, false, false, false, false, false, false, false, false, false] hS ?_ (hy := fun w_ hS_ => by (replace hS_ : Below WX.heap.size WX w_ := hS_); have q_ := blk_below HGX.out hS_; have q0_ : w_.cell? ⟨w.heap.size, 0, none⟩ = some (.int .i64 g.f0) := (blk_cell q_ 0).trans rfl; have q1_ : w_.cell? ⟨w.heap.size, 1, none⟩ = some (.int .i64 g.f1) := (blk_cell q_ 1).trans rfl; have q2_ : w_.cell? ⟨w.heap.size, 2, none⟩ = some (.int .i64 g.f2) := (blk_cell q_ 2).trans rfl; go_simp <;> with_reducible rfl)
        refine takeE 2 (some 44) #[true, false, true, false, false, false, false, false, false, false, false, false, false, false] hS ?_
        refine takeE 3 (some 45) #[true, false, true, true, false, false, false, false, false, false, false, false, false, false] hS ?_
        refine takeE 4 (some 46) #[true, false, true, true, true, false, false, false, false, false, false, false, false, false] hS ?_ (hy := fun w_ hS_ => by (replace hS_ : Below WX.heap.size WX w_ := hS_); have hb_ : (0 : Int) ≤ (k : Int) ∧ (k : Int) ≤ (c1 : Int) := (by omega); go_simp <;> with_reducible rfl)
        refine doD2 (i := 1) (j := 10) (l2 := #[true, true, true, true, true, false, false, false, false, false, false, false, false, false]) (l3 := #[true, false, true, true, true, false, false, false, false, false, true, false, false, false]) (by kernel_rfl) rfl rfl (by kernel_rfl) (by kernel_rfl) (by kernel_rfl) (by kernel_rfl) (fun K hK => ?_) (fun K hK => ?_)
        · go_simp
          go_wp2_with (first | (go_at_call 16; go_loud ((with_reducible refine (H16.out _).mono ?_); rintro e wq1 ⟨vz, rfl, hRz, hb1⟩; obtain ⟨Az, cz, rfl, hcz, _⟩ := Kd.R_reads hRz; have HNZ := Lib.hid (R_nil26 hRz); clear hRz hcz)))
          refine hK.out _ _ ?_ (fun hS_ => ?_)
          · show Below WX.heap.size WX _
            exact hS.trans (hb1.mono hS.size)
          clear hK K hS
          have hS : Below WX.heap.size WX _ := hS_
          clear hS_
          clear hb1
          refine doD2 (i := 5) (j := 10) (l2 := #[true, true, true, true, true, true, false, false, false, false, false, false, false, false]) (l3 := #[true, true, true, true, true, false, false, false, false, false, true, false, false, false]) (by kernel_rfl) rfl rfl (by kernel_rfl) (by kernel_rfl) (by kernel_rfl) (by kernel_rfl) (fun K hK => ?_) (fun K hK => ?_)
          · go_simp
            go_wp2_with (first | (go_at_call 15; go_loud ((with_reducible refine (HRUN2.out _ _ _ HNZ.out (Kd.C_below HL1.out hS)).mono ?_); have HSS := Lib.hid hS.size; rintro e wr ⟨v6, vo, rfl, hR6, hRo, hb6⟩; obtain ⟨A6q, c6q, rfl, hc6, _⟩ := Kd.R_reads hR6; obtain ⟨Aoq, coq, rfl, hco, _⟩ := Kd.R_reads hRo; have HR4q := Lib.hid (R_base hR6 HSS.out (Nat.le_refl _)); have HR6q := Lib.hid (R_base hRo HSS.out (Nat.le_refl _)); clear hR6 hRo hc6 hco)))
            refine hK.out _ _ ?_ (fun hS_ => ?_)
            · show Below WX.heap.size WX _
              exact hS.trans (hb6.mono hS.size)
            clear hK K hS
            have hS : Below WX.heap.size WX _ := hS_
            clear hS_
            clear hb6
            refine takeE 6 (some 41) #[true, true, true, true, true, true, true, false, false, false, false, false, false, false] hS ?_
            refine takeE 7 (some 48) #[true, true, true, true, true, true, true, true, false, false, false, false, false, false] hS ?_
            refine takeE 8 (some 49) #[true, true, true, true, true, true, true, true, true, false, false, false, false, false] hS ?_
            refine takeE 9 (some 50) #[true, true, true, true, true, true, true, true, true, true, false, false, false, false] hS ?_
            have hSr := Lib.hid hS
            refine doD (i := 10) (ls2 := #[true, true, true, true, true, true, true, true, true, true, true, false, false, false]) (by kernel_rfl) rfl (by kernel_rfl) (by kernel_rfl) (fun K hK => ?_)
            go_simp
            refine hK.out _ _ ?_ (fun hS_ => ?_)
            · show Below WX.heap.size WX _
              exact hS.alloc hS.size _
            clear hK K hS
            have hS : Below WX.heap.size WX _ := hS_
            clear hS_
            refine doD (i := 11) (ls2 := #[true, true, true, true, true, true, true, true, true, true, true, true, false, false]) (by kernel_rfl) rfl (by kernel_rfl) (by kernel_rfl) (fun K hK => ?_)
            go_simp
            refine hK.out _ _ ?_ (fun hS_ => ?_)
            · show Below WX.heap.size WX _
              exact (hSr.out).alloc hSr.out.size _
            clear hK K hS
            have hS : Below WX.heap.size WX _ := hS_
            clear hS_
            refine takeE 12 (some 12) #[true, true, true, true, true, true, true, true, true, true, true, true, true, false] hS ?_
            refine takeE 13 (some 13) #[true, true, true, true, true, true, true, true, true, true, true, true, true, true] hS ?_
            refine wpAnyH_done (by kernel_rfl) ?_ _
            go_wp2
            go_meet
            case rel =>
              have h4 := R_ok (ok2 := fun _ => True) (Kd.R_below HR4q.out ((Below.refl _ _).alloc (Nat.le_refl _) (.cells #[.int .i64 q0, .int .i64 q1, .int .i64 q2, .int .i64 q3, .slice A6q q4.length c6q] 28))) (fun _ _ => trivial)
              have h6 := R_ok (ok2 := fun _ => True) (Kd.R_below HR6q.out ((Below.refl _ _).alloc (Nat.le_refl _) (.cells #[.int .i64 q0, .int .i64 q1, .int .i64 q2, .int .i64 q3, .slice A6q q4.length c6q] 28))) (fun _ _ => trivial)
              exact ⟨⟨rfl, ⟨_, A6q, c6q, rfl, heap_alloc_new _ _, h4⟩, ⟨_, _, rfl, h6⟩⟩, hS⟩
          · have hgbl := Lib.hid hS.size
            go_simp
            refine hK.out _ _ ?_ (fun hS_ => ?_)
            · show Below WX.heap.size WX _
              exact hS.alloc hS.size _
            clear hK K hS
            have hS : Below WX.heap.size WX _ := hS_
            clear hS_
            have HGB := hgbl
            clear hgbl
            refine doD (i := 5) (ls2 := #[true, true, true, true, true, true, false, false, false, false, true, false, false, false]) (by kernel_rfl) rfl (by kernel_rfl) (by kernel_rfl) (fun K hK => ?_)
            go_simp
            go_wp2_with (first | (go_at_call 15; go_loud ((with_reducible refine (HRUN2.out _ _ _ HNZ.out (Kd.C_below HL1.out hS)).mono ?_); have hz0 := heap_alloc_new wq1 (.cells #[.int .i64 0, .int .i64 0, .int .i64 0, .int .i64 0, .slice none 0 0] 28); have HZ := Lib.hid hz0; clear hz0; have HSS := Lib.hid hS.size; rintro e wr ⟨v6, vo, rfl, hR6, hRo, hb6⟩; obtain ⟨A6q, c6q, rfl, hc6, _⟩ := Kd.R_reads hR6; obtain ⟨Aoq, coq, rfl, hco, _⟩ := Kd.R_reads hRo; have HR4q := Lib.hid (R_base hR6 HSS.out (Nat.le_refl _)); have HR6q := Lib.hid (R_base hRo HSS.out (Nat.le_refl _)); have HZL := Lib.hid (lt_of_block HZ.out); have hz6 := blk_below HZ.out hb6; have z0_ : wr.cell? ⟨_, 0, none⟩ = some (.int .i64 0) := (blk_cell hz6 0).trans rfl; have z1_ : wr.cell? ⟨_, 1, none⟩ = some (.int .i64 0) := (blk_cell hz6 1).trans rfl; have z2_ : wr.cell? ⟨_, 2, none⟩ = some (.int .i64 0) := (blk_cell hz6 2).trans rfl; have z3_ : wr.cell? ⟨_, 3, none⟩ = some (.int .i64 0) := (blk_cell hz6 3).trans rfl; have z4_ : wr.cell? ⟨_, 4, none⟩ = some (.slice none 0 0) := (blk_cell hz6 4).trans rfl; have y0_ : wr.frozen? ⟨_, 0, none⟩ = false := blk_frozen hz6 0; have y1_ : wr.frozen? ⟨_, 1, none⟩ = false := blk_frozen hz6 1; have y2_ : wr.frozen? ⟨_, 2, none⟩ = false := blk_frozen hz6 2; have y3_ : wr.frozen? ⟨_, 3, none⟩ = false := blk_frozen hz6 3; have y4_ : wr.frozen? ⟨_, 4, none⟩ = false := blk_frozen hz6 4; replace HZ := Lib.hid hz6; clear hz6; clear hR6 hRo hc6 hco)))
            refine hK.out _ _ ?_ (fun hS_ => ?_)
            · show Below WX.heap.size WX _
              exact hS.trans (hb6.mono hS.size)
            clear hK K hS
            have hS : Below WX.heap.size WX _ := hS_
            clear hS_
            clear hb6
            refine takeE 6 (some 41) #[true, true, true, true, true, true, true, false, false, false, true, false, false, false] hS ?_
            refine takeE 7 (some 48) #[true, true, true, true, true, true, true, true, false, false, true, false, false, false] hS ?_
            refine takeE 8 (some 49) #[true, true, true, true, true, true, true, true, true, false, true, false, false, false] hS ?_
            refine takeE 9 (some 50) #[true, true, true, true, true, true, true, true, true, true, true, false, false, false] hS ?_
            refine doD (i := 11) (ls2 := #[true, true, true, true, true, true, true, true, true, true, true, true, false, false]) (by kernel_rfl) rfl (by kernel_rfl) (by kernel_rfl) (fun K hK => ?_)
            go_simp
            refine hK.out _ _ ?_ (fun hS_ => ?_)
            · show Below WX.heap.size WX _
              exact put5_belowZ hS HZ.out (by have h0 := HGB.out; first | omega | (simp at h0; omega)) (.int .i64 q0) (.int .i64 q1) (.int .i64 q2) (.int .i64 q3) (.slice A6q q4.length c6q)
            clear hK K hS
            have hS : Below WX.heap.size WX _ := hS_
            clear hS_
            refine takeE 12 (some 12) #[true, true, true, true, true, true, true, true, true, true, true, true, true, false] hS ?_
            refine takeE 13 (some 13) #[true, true, true, true, true, true, true, true, true, true, true, true, true, true] hS ?_
            refine wpAnyH_done (by kernel_rfl) ?_ _
            go_wp2
            go_meet
            case rel =>
              have h4 := R_ok (ok2 := fun _ => True) (R_other HR4q.out (fun k hk => put5_otherZ HZ.out (by have := HZL.out; omega) (.int .i64 q0) (.int .i64 q1) (.int .i64 q2) (.int .i64 q3) (.slice A6q q4.length c6q))) (fun _ _ => trivial)
              have h6 := R_ok (ok2 := fun _ => True) (R_other HR6q.out (fun k hk => put5_otherZ HZ.out (by have := HZL.out; omega) (.int .i64 q0) (.int .i64 q1) (.int .i64 q2) (.int .i64 q3) (.slice A6q q4.length c6q))) (fun _ _ => trivial)
              exact ⟨⟨rfl, ⟨_, A6q, c6q, rfl, put5_heap HZ.out (.int .i64 q0) (.int .i64 q1) (.int .i64 q2) (.int .i64 q3) (.slice A6q q4.length c6q), h4⟩, ⟨_, _, rfl, h6⟩⟩, hS⟩
        · have hgbl := Lib.hid hS.size
          go_simp
          refine hK.out _ _ ?_ (fun hS_ => ?_)
          · show Below WX.heap.size WX _
            exact hS.alloc hS.size _
          clear hK K hS
          have hS : Below WX.heap.size WX _ := hS_
          clear hS_
          have HGB := hgbl
          clear hgbl
          refine doD (i := 1) (ls2 := #[true, true, true, true, true, false, false, false, false, false, true, false, false, false]) (by kernel_rfl) rfl (by kernel_rfl) (by kernel_rfl) (fun K hK => ?_)
          go_simp
          go_wp2_with (first | (go_at_call 16; go_loud ((with_reducible refine (H16.out _).mono ?_); rintro e wq1 ⟨vz, rfl, hRz, hb1⟩; obtain ⟨Az, cz, rfl, hcz, _⟩ := Kd.R_reads hRz; have HNZ := Lib.hid (R_nil26 hRz); have hz1 := blk_below (blk_drew (heap_alloc_new _ _)) hb1; have HZ := Lib.hid hz1; clear hz1; clear hRz hcz)))
          refine hK.out _ _ ?_ (fun hS_ => ?_)
          · show Below WX.heap.size WX _
            exact hS.trans (hb1.mono hS.size)
          clear hK K hS
          have hS : Below WX.heap.size WX _ := hS_
          clear hS_
          clear hb1
          refine doD (i := 5) (ls2 := #[true, true, true, true, true, true, false, false, false, false, true, false, false, false]) (by kernel_rfl) rfl (by kernel_rfl) (by kernel_rfl) (fun K hK => ?_)
          go_simp
          go_wp2_with (first | (go_at_call 15; go_loud ((with_reducible refine (HRUN2.out _ _ _ HNZ.out (Kd.C_below HL1.out hS)).mono ?_); have HSS := Lib.hid hS.size; rintro e wr ⟨v6, vo, rfl, hR6, hRo, hb6⟩; obtain ⟨A6q, c6q, rfl, hc6, _⟩ := Kd.R_reads hR6; obtain ⟨Aoq, coq, rfl, hco, _⟩ := Kd.R_reads hRo; have HR4q := Lib.hid (R_base hR6 HSS.out (Nat.le_refl _)); have HR6q := Lib.hid (R_base hRo HSS.out (Nat.le_refl _)); have HZL := Lib.hid (lt_of_block HZ.out); have hz6 := blk_below HZ.out hb6; have z0_ : wr.cell? ⟨_, 0, none⟩ = some (.int .i64 0) := (blk_cell hz6 0).trans rfl; have z1_ : wr.cell? ⟨_, 1, none⟩ = some (.int .i64 0) := (blk_cell hz6 1).trans rfl; have z2_ : wr.cell? ⟨_, 2, none⟩ = some (.int .i64 0) := (blk_cell hz6 2).trans rfl; have z3_ : wr.cell? ⟨_, 3, none⟩ = some (.int .i64 0) := (blk_cell hz6 3).trans rfl; have z4_ : wr.cell? ⟨_, 4, none⟩ = some (.slice none 0 0) := (blk_cell hz6 4).trans rfl; have y0_ : wr.frozen? ⟨_, 0, none⟩ = false := blk_frozen hz6 0; have y1_ : wr.frozen? ⟨_, 1, none⟩ = false := blk_frozen hz6 1; have y2_ : wr.frozen? ⟨_, 2, none⟩ = false := blk_frozen hz6 2; have y3_ : wr.frozen? ⟨_, 3, none⟩ = false := blk_frozen hz6 3; have y4_ : wr.frozen? ⟨_, 4, none⟩ = false := blk_frozen hz6 4; replace HZ := Lib.hid hz6; clear hz6; clear hR6 hRo hc6 hco)))
          refine hK.out _ _ ?_ (fun hS_ => ?_)
          · show Below WX.heap.size WX _
            exact hS.trans (hb6.mono hS.size)
          clear hK K hS
          have hS : Below WX.heap.size WX _ := hS_
          clear hS_
          clear hb6
          refine takeE 6 (some 41) #[true, true, true, true, true, true, true, false, false, false, true, false, false, false] hS ?_
          refine takeE 7 (some 48) #[true, true, true, true, true, true, true, true, false, false, true, false, false, false] hS ?_
          refine takeE 8 (some 49) #[true, true, true, true, true, true, true, true, true, false, true, false, false, false] hS ?_
          refine takeE 9 (some 50) #[true, true, true, true, true, true, true, true, true, true, true, false, false, false] hS ?_
          refine doD (i := 11) (ls2 := #[true, true, true, true, true, true, true, true, true, true, true, true, false, false]) (by kernel_rfl) rfl (by kernel_rfl) (by kernel_rfl) (fun K hK => ?_)
          go_simp
          refine hK.out _ _ ?_ (fun hS_ => ?_)
          · show Below WX.heap.size WX _
            exact put5_belowZ hS HZ.out (by have h0 := HGB.out; first | omega | (simp at h0; omega)) (.int .i64 q0) (.int .i64 q1) (.int .i64 q2) (.int .i64 q3) (.slice A6q q4.length c6q)
          clear hK K hS
          have hS : Below WX.heap.size WX _ := hS_
          clear hS_
          refine takeE 12 (some 12) #[true, true, true, true, true, true, true, true, true, true, true, true, true, false] hS ?_
          refine takeE 13 (some 13) #[true, true, true, true, true, true, true, true, true, true, true, true, true, true] hS ?_
          refine wpAnyH_done (by kernel_rfl) ?_ _
          go_wp2
          go_meet
          case rel =>
            have h4 := R_ok (ok2 := fun _ => True) (R_other HR4q.out (fun k hk => put5_otherZ HZ.out (by have := HZL.out; omega) (.int .i64 q0) (.int .i64 q1) (.int .i64 q2) (.int .i64 q3) (.slice A6q q4.length c6q))) (fun _ _ => trivial)
            have h6 := R_ok (ok2 := fun _ => True) (R_other HR6q.out (fun k hk => put5_otherZ HZ.out (by have := HZL.out; omega) (.int .i64 q0) (.int .i64 q1) (.int .i64 q2) (.int .i64 q3) (.slice A6q q4.length c6q))) (fun _ _ => trivial)
            exact ⟨⟨rfl, ⟨_, A6q, c6q, rfl, put5_heap HZ.out (.int .i64 q0) (.int .i64 q1) (.int .i64 q2) (.int .i64 q3) (.slice A6q q4.length c6q), h4⟩, ⟨_, _, rfl, h6⟩⟩, hS⟩
      case rest =>
        obtain ⟨⟨e0, ⟨gq, A7, c7, rfl, hbox, hR4⟩, ⟨Aq, cq, rfl, hRo⟩⟩, hbw⟩ := hcut
        subst e0
        simp only at hbox hR4 hRo
        have HBZ := Lib.hid (HBY.out.trans (hbw.mono HBY.out.size))
        have HGZ := Lib.hid (blk_below HGX.out hbw)
        have HLZ := Lib.hid (Kd.C_below HL1.out hbw)
        have HBP2 := Lib.hid (blk_below HBP.out hbw)
        have HC4 := Lib.hid (Kd.C_below HP4.out.2.2 hbw)
        have HCO := Lib.hid (Kd.C_below HPO.out.2.2 hbw)
        have HBQ0 := Lib.hid hbox
        have HQ40 := Lib.hid (Kd.R_reads' hR4)
        have HNQ := Lib.hid (R_nil26 hR4)
        have HQO0 := Lib.hid (Kd.R_reads' hRo)
        clear hbox hR4 hRo hbw HRUN2 HBY HGY HLY HGX HL1 HBP H16
        obtain ⟨WX, hWX⟩ : ∃ W, W = wc := ⟨_, rfl⟩
        subst hWX
        by_cases he : pe = 0
        rotate_left
        · have de : (pe == 0) = false := beq_eq_false_iff_ne.2 he
          have h3 : po = [] := HER.out he
          subst h3
          go_wp2_with (first | (go_at_call 20; go_loud ((with_reducible refine (awake_calls _).mono ?_); rintro e w9 ⟨rfl, hb9⟩)))
          go_ret
          exact ⟨rfl, HBZ.out.trans (hb9.mono HBZ.out.size)⟩
        subst he
        obtain ⟨hqe, hiq, hre, hr1, hro, hip⟩ := HPT.out rfl
        subst hqe
        have HIQ := Lib.hid hiq
        have HIP := Lib.hid hip
        obtain ⟨R, hR⟩ : ∃ P, runP g ⟨q0, q1, q2, q3, q4⟩ (L.drop k) = P := ⟨_, rfl⟩
        have hrun := HRUN3.out ⟨q0, q1, q2, q3, q4⟩
        rw [hR] at hrun hre hr1 hro
        obtain ⟨rs, ro, re⟩ := R
        simp only at hre hr1 hro
        subst hre
        subst hr1
        have HCAT := Lib.hid hro
        have HRUN4 := Lib.hid hrun
        have hq64 : q4.length ≤ 64 := hiq.len
        have hp64 : p4.length ≤ 64 := hip.len
        clear hiq hip hR hro hrun HRUN3 HPT HER
        have HGX := HGZ
        have HL1 := HLZ
        have HBQ := HBQ0
        have HQ4 := HQ40
        go_upto_region 7 with fail
        go_cut [14, 15, 16] from 59 to 68 (fun v5 v6 v7 wc => RunRes WX wc (⟨p0, p1, p2, p3, p4⟩, ro, 0) v5 v6 v7 ∧ Below WX.heap.size WX wc)
        case first =>
          refine wp_region_held_drew (S := fun w_ => Below WX.heap.size WX w_) (by kernel_rfl) (below_drew (Below.refl _ _)) (fun hS_ => ?_)
          have hS : Below WX.heap.size WX _ := hS_
          clear hS_
          change wpAnyH _ _ _ _ _ 14 #[false, false, false, false, false, false, false, false, false, false, false, false, false, false] _ _
          refine takeE 0 (some 60) #[true, false, false, false, false, false, false, false, false, false, false, false, false, false] hS ?_ (hy := fun w_ hS_ => by (replace hS_ : Below WX.heap.size WX w_ := hS_); have q_ := blk_below HGX.out hS_; have q0_ : w_.cell? ⟨w.heap.size, 0, none⟩ = some (.int .i64 g.f0) := (blk_cell q_ 0).trans rfl; have q1_ : w_.cell? ⟨w.heap.size, 1, none⟩ = some (.int .i64 g.f1) := (blk_cell q_ 1).trans rfl; have q2_ : w_.cell? ⟨w.heap.size, 2, none⟩ = some (.int .i64 g.f2) := (blk_cell q_ 2).trans rfl; go_simp <;> with_reducible rfl)
          refine takeE 1 (some 61) #[true, true, false, false, false, false, false, false, false, false, false, false, false, false] hS ?_ (hy := fun w_ hS_ => by (replace hS_ : Below WX.heap.size WX w_ := hS_); have x_ := blk_below HBQ.out hS_; have x0_ : w_.cell? ⟨gq, 0, none⟩ = some (.int .i64 q0) := (blk_cell x_ 0).trans rfl; have x1_ : w_.cell? ⟨gq, 1, none⟩ = some (.int .i64 q1) := (blk_cell x_ 1).trans rfl; have x2_ : w_.cell? ⟨gq, 2, none⟩ = some (.int .i64 q2) := (blk_cell x_ 2).trans rfl; have x3_ : w_.cell? ⟨gq, 3, none⟩ = some (.int .i64 q3) := (blk_cell x_ 3).trans rfl; have x4_ : w_.cell? ⟨gq, 4, none⟩ = some (.slice A7 q4.length c7) := (blk_cell x_ 4).trans rfl; go_simp <;> with_reducible rfl)
          refine takeE 2 (some 62) #[true, true, true, false, false, false, false, false, false, false, false, false, false, false] hS ?_
          refine takeE 3 (some 63) #[true, true, true, true, false, false, false, false, false, false, false, false, false, false] hS ?_
          refine takeE 4 (some 64) #[true, true, true, true, true, false, false, false, false, false, false, false, false, false] (v := .slice BP (L.length - k) (c1 - k)) hS ?_ (hy := fun w_ hS_ => by have hb_ : (0 : Int) ≤ (k : Int) ∧ (k : Int) ≤ (L.length : Int) ∧ (k : Int) ≤ (c1 : Int) ∧ (L.length : Int) ≤ (c1 : Int) := (by omega); rw [← HBP0.out]; go_simp <;> with_reducible rfl)
          refine doD2 (i := 5) (j := 10) (l2 := #[true, true, true, true, true, true, false, false, false, false, false, false, false, false]) (l3 := #[true, true, true, true, true, false, false, false, false, false, true, false, false, false]) (by kernel_rfl) rfl rfl (by kernel_rfl) (by kernel_rfl) (by kernel_rfl) (by kernel_rfl) (fun K hK => ?_) (fun K hK => ?_)
          · go_simp
            go_wp2_with (first | (go_at_call 15; go_loud ((with_reducible refine (HRUN4.out _ A7 c7 HQ4.out.2.1 (by have := HIQ.out.len; simp only at this ⊢; omega) HNQ.out (Kd.C_below HQ4.out.2.2 hS) (Kd.C_below HL1.out hS)).mono ?_); have HSS := Lib.hid hS.size; rintro e wr ⟨v6, vo, rfl, hR6, hRo, hb6⟩; obtain ⟨A6r, c6r, rfl, hc6, _⟩ := Kd.R_reads hR6; obtain ⟨Aor, cor, rfl, hco, _⟩ := Kd.R_reads hRo; have HR4r := Lib.hid (R_base hR6 HSS.out (Nat.le_refl _)); have HR6r := Lib.hid (R_base hRo HSS.out (Nat.le_refl _)); clear hR6 hRo hc6 hco)))
            refine hK.out _ _ ?_ (fun hS_ => ?_)
            · show Below WX.heap.size WX _
              exact hS.trans (hb6.mono hS.size)
            clear hK K hS
            have hS : Below WX.heap.size WX _ := hS_
            clear hS_
            clear hb6
            refine takeE 6 (some 59) #[true, true, true, true, true, true, true, false, false, false, false, false, false, false] hS ?_
            refine takeE 7 (some 66) #[true, true, true, true, true, true, true, true, false, false, false, false, false, false] hS ?_
            refine takeE 8 (some 67) #[true, true, true, true, true, true, true, true, true, false, false, false, false, false] hS ?_
            refine takeE 9 (some 68) #[true, true, true, true, true, true, true, true, true, true, false, false, false, false] hS ?_
            have hSr := Lib.hid hS
            refine doD (i := 10) (ls2 := #[true, true, true, true, true, true, true, true, true, true, true, false, false, false]) (by kernel_rfl) rfl (by kernel_rfl) (by kernel_rfl) (fun K hK => ?_)
            go_simp
            refine hK.out _ _ ?_ (fun hS_ => ?_)
            · show Below WX.heap.size WX _
              exact hS.alloc hS.size _
            clear hK K hS
            have hS : Below WX.heap.size WX _ := hS_
            clear hS_
            refine doD (i := 11) (ls2 := #[true, true, true, true, true, true, true, true, true, true, true, true, false, false]) (by kernel_rfl) rfl (by kernel_rfl) (by kernel_rfl) (fun K hK => ?_)
            go_simp
            refine hK.out _ _ ?_ (fun hS_ => ?_)
            · show Below WX.heap.size WX _
              exact (hSr.out).alloc hSr.out.size _
            clear hK K hS
            have hS : Below WX.heap.size WX _ := hS_
            clear hS_
            refine takeE 12 (some 15) #[true, true, true, true, true, true, true, true, true, true, true, true, true, false] hS ?_
            refine takeE 13 (some 16) #[true, true, true, true, true, true, true, true, true, true, true, true, true, true] hS ?_
            refine wpAnyH_done (by kernel_rfl) ?_ _
            go_wp2
            go_meet
            case rel =>
              have h4 := R_ok (ok2 := fun _ => True) (Kd.R_below HR4r.out ((Below.refl _ _).alloc (Nat.le_refl _) (.cells #[.int .i64 p0, .int .i64 p1, .int .i64 p2, .int .i64 p3, .slice A6r p4.length c6r] 28))) (fun _ _ => trivial)
              have h6 := R_ok (ok2 := fun _ => True) (Kd.R_below HR6r.out ((Below.refl _ _).alloc (Nat.le_refl _) (.cells #[.int .i64 p0, .int .i64 p1, .int .i64 p2, .int .i64 p3, .slice A6r p4.length c6r] 28))) (fun _ _ => trivial)
              exact ⟨⟨rfl, ⟨_, A6r, c6r, rfl, heap_alloc_new _ _, h4⟩, ⟨_, _, rfl, h6⟩⟩, hS⟩
          · have hgbl := Lib.hid hS.size
            go_simp
            refine hK.out _ _ ?_ (fun hS_ => ?_)
            · show Below WX.heap.size WX _
              exact hS.alloc hS.size _
            clear hK K hS
            have hS : Below WX.heap.size WX _ := hS_
            clear hS_
            have HGB := hgbl
            clear hgbl
            refine doD (i := 5) (ls2 := #[true, true, true, true, true, true, false, false, false, false, true, false, false, false]) (by kernel_rfl) rfl (by kernel_rfl) (by kernel_rfl) (fun K hK => ?_)
            go_simp
            go_wp2_with (first | (go_at_call 15; go_loud ((with_reducible refine (HRUN4.out _ A7 c7 HQ4.out.2.1 (by have := HIQ.out.len; simp only at this ⊢; omega) HNQ.out (Kd.C_below HQ4.out.2.2 hS) (Kd.C_below HL1.out hS)).mono ?_); have hz0 := blk_drew (heap_alloc_new WX (.cells #[.int .i64 0, .int .i64 0, .int .i64 0, .int .i64 0, .slice none 0 0] 28)); have HZ := Lib.hid hz0; clear hz0; have HSS := Lib.hid hS.size; rintro e wr ⟨v6, vo, rfl, hR6, hRo, hb6⟩; obtain ⟨A6r, c6r, rfl, hc6, _⟩ := Kd.R_reads hR6; obtain ⟨Aor, cor, rfl, hco, _⟩ := Kd.R_reads hRo; have HR4r := Lib.hid (R_base hR6 HSS.out (Nat.le_refl _)); have HR6r := Lib.hid (R_base hRo HSS.out (Nat.le_refl _)); have HZL := Lib.hid (lt_of_block HZ.out); have hz6 := blk_below HZ.out hb6; have z0_ : wr.cell? ⟨_, 0, none⟩ = some (.int .i64 0) := (blk_cell hz6 0).trans rfl; have z1_ : wr.cell? ⟨_, 1, none⟩ = some (.int .i64 0) := (blk_cell hz6 1).trans rfl; have z2_ : wr.cell? ⟨_, 2, none⟩ = some (.int .i64 0) := (blk_cell hz6 2).trans rfl; have z3_ : wr.cell? ⟨_, 3, none⟩ = some (.int .i64 0) := (blk_cell hz6 3).trans rfl; have z4_ : wr.cell? ⟨_, 4, none⟩ = some (.slice none 0 0) := (blk_cell hz6 4).trans rfl; have y0_ : wr.frozen? ⟨_, 0, none⟩ = false := blk_frozen hz6 0; have y1_ : wr.frozen? ⟨_, 1, none⟩ = false := blk_frozen hz6 1; have y2_ : wr.frozen? ⟨_, 2, none⟩ = false := blk_frozen hz6 2; have y3_ : wr.frozen? ⟨_, 3, none⟩ = false := blk_frozen hz6 3; have y4_ : wr.frozen? ⟨_, 4, none⟩ = false := blk_frozen hz6 4; replace HZ := Lib.hid hz6; clear hz6; clear hR6 hRo hc6 hco)))
            refine hK.out _ _ ?_ (fun hS_ => ?_)
            · show Below WX.heap.size WX _
              exact hS.trans (hb6.mono hS.size)
            clear hK K hS
            have hS : Below WX.heap.size WX _ := hS_
            clear hS_
            clear hb6
            refine takeE 6 (some 59) #[true, true, true, true, true, true, true, false, false, false, true, false, false, false] hS ?_
            refine takeE 7 (some 66) #[true, true, true, true, true, true, true, true, false, false, true, false, false, false] hS ?_
            refine takeE 8 (some 67) #[true, true, true, true, true, true, true, true, true, false, true, false, false, false] hS ?_
            refine takeE 9 (some 68) #[true, true, true, true, true, true, true, true, true, true, true, false, false, false] hS ?_
            refine doD (i := 11) (ls2 := #[true, true, true, true, true, true, true, true, true, true, true, true, false, false]) (by kernel_rfl) rfl (by kernel_rfl) (by kernel_rfl) (fun K hK => ?_)
            go_simp
            refine hK.out _ _ ?_ (fun hS_ => ?_)
            · show Below WX.heap.size WX _
              exact put5_belowZ hS HZ.out (by have h0 := HGB.out; first | omega | (simp at h0; omega)) (.int .i64 p0) (.int .i64 p1) (.int .i64 p2) (.int .i64 p3) (.slice A6r p4.length c6r)
            clear hK K hS
            have hS : Below WX.heap.size WX _ := hS_
            clear hS_
            refine takeE 12 (some 15) #[true, true, true, true, true, true, true, true, true, true, true, true, true, false] hS ?_
            refine takeE 13 (some 16) #[true, true, true, true, true, true, true, true, true, true, true, true, true, true] hS ?_
            refine wpAnyH_done (by kernel_rfl) ?_ _
            go_wp2
            go_meet
            case rel =>
              have h4 := R_ok (ok2 := fun _ => True) (R_other HR4r.out (fun k hk => put5_otherZ HZ.out (by have := HZL.out; omega) (.int .i64 p0) (.int .i64 p1) (.int .i64 p2) (.int .i64 p3) (.slice A6r p4.length c6r))) (fun _ _ => trivial)
              have h6 := R_ok (ok2 := fun _ => True) (R_other HR6r.out (fun k hk => put5_otherZ HZ.out (by have := HZL.out; omega) (.int .i64 p0) (.int .i64 p1) (.int .i64 p2) (.int .i64 p3) (.slice A6r p4.length c6r))) (fun _ _ => trivial)
              exact ⟨⟨rfl, ⟨_, A6r, c6r, rfl, put5_heap HZ.out (.int .i64 p0) (.int .i64 p1) (.int .i64 p2) (.int .i64 p3) (.slice A6r p4.length c6r), h4⟩, ⟨_, _, rfl, h6⟩⟩, hS⟩
        case rest =>
          obtain ⟨⟨e0, ⟨gr, A8, c8, rfl, hbox, hR4⟩, ⟨Ar, cr, rfl, hRo⟩⟩, hbw⟩ := hcut
          subst e0
          simp only at hbox hR4 hRo
          have HBV := Lib.hid (HBZ.out.trans (hbw.mono HBZ.out.size))
          have HGV := Lib.hid (blk_below HGZ.out hbw)
          have HBPv := Lib.hid (blk_below HBP2.out hbw)
          have HBQv := Lib.hid (blk_below HBQ0.out hbw)
          have HBRv := Lib.hid hbox
          have HP4v := Lib.hid (Kd.C_below HC4.out hbw)
          have HPOv := Lib.hid (Kd.C_below HCO.out hbw)
          have HQ4v := Lib.hid (Kd.C_below HQ40.out.2.2 hbw)
          have HQOw := Lib.hid (Kd.C_below HQO0.out.2.2 hbw)
          have HCQ := Lib.hid HQ40.out.2.1
          have HR4v := Lib.hid (Kd.R_reads' hR4)
          have HROw := Lib.hid (Kd.R_reads' hRo).2.2
          have hlen := HLEN.out
          have hcat := congrArg List.length HCAT.out
          rw [List.length_append] at hcat
          have HCL := Lib.hid hcat
          clear hcat
          clear hbox hR4 hRo hbw HGX HL1 HBQ HQ4 HBZ HGZ HBP2 HBQ0 HC4 HCO HQ40 HQO0 HLZ HRUN4
          go_upto_region 11 with (first | ((with_reducible refine gate_builtin (b := .append) (xs := #[.tmp 69, .tmp 70]) rfl ?_); (try (refine gate_guard (by rfl) ?_; dsimp only)); at_builtin; refine Kd.R_append_rows k46 (w0 := wc) wc.heap.size rfl (.tmp 69) (.tmp 70) 26 46 (.agg #[(.int .i64 0), (.int .i64 0), (.int .i64 0), (.int .i64 0), (.int .i64 0), (.int .i64 0), (.int .i64 0), (.int .i64 0), (.int .i64 0), (.int .i64 0), (.int .i64 0), (.int .i64 0)]) 96 rfl Try.underlying26 info46 rfl (by decide) (by omega) (.slice none 0 0) [] qo _ _ _ (fun _ => True) (fun _ => False) rfl rfl (Kd.R_nil _ _ _ _ _) HQOw.out (fun _ _ h => by obtain rfl := k46_open h; exact k46_mkM _ _ _ _) (fun _ h => h.elim) (fun _ _ => trivial) (Below.refl _ _) (Nat.le_refl _) ?aL ?_; (case aL => have h_ := HCL.out; first | omega | (simp; omega)); intro va wa hRa hba hga hata; rw [List.nil_append] at hRa; obtain ⟨Aa, ca, rfl, hca, _⟩ := Kd.R_reads hRa; have HRA := Lib.hid hRa; have HBA := Lib.hid hba; clear hRa hba hga hata) | ((with_reducible refine gate_builtin (b := .append) (xs := #[.tmp 72, .tmp 73]) rfl ?_); (try (refine gate_guard (by rfl) ?_; dsimp only)); at_builtin; refine Kd.R_append_rows k46 (w0 := wc) wc.heap.size rfl (.tmp 72) (.tmp 73) 26 46 (.agg #[(.int .i64 0), (.int .i64 0), (.int .i64 0), (.int .i64 0), (.int .i64 0), (.int .i64 0), (.int .i64 0), (.int .i64 0), (.int .i64 0), (.int .i64 0), (.int .i64 0), (.int .i64 0)]) 96 rfl Try.underlying26 info46 rfl (by decide) (by omega) (.slice Aa qo.length ca) qo ro _ _ _ (fun _ => True) (fun _ => False) rfl rfl HRA.out (Kd.C_below HROw.out HBA.out) (fun _ _ h => by obtain rfl := k46_open h; exact k46_mkM _ _ _ _) (fun _ h => h.elim) (fun _ _ => trivial) HBA.out HBA.out.size ?aL ?_; (case aL => have h_ := HCL.out; first | omega | (simp; omega)); intro vb wb hRb hbb hgb hatb; rw [← HCAT.out] at hRb; obtain ⟨Ab, cb, rfl, hcb, hCb⟩ := Kd.R_reads hRb; have HCB := Lib.hid hCb; have HBB2 := Lib.hid hbb; clear hRb hbb hgb hatb hCb))
          have BW := HBB2.out
          have HBE := Lib.hid (HBV.out.trans (BW.mono HBV.out.size))
          have hpc := blk_below HBPv.out BW
          have hrc := blk_below HBRv.out BW
          obtain ⟨b0, b1, b2, b3, b4⟩ := cells5 hpc
          obtain ⟨r0, r1, r2, r3, r4⟩ := cells5 hrc
          have HG5 := Lib.hid (blk_below HGV.out BW)
          have HP5 := Lib.hid hpc
          have HQ5 := Lib.hid (blk_below HBQv.out BW)
          have hpo : po.length ≤ 1000000 := by omega
          have HSAME := Lib.hid (headgateref16_Same.calls (p4.length + 1) p0 p1 p2 p3 A6 c6 p4 p0 p1 p2 p3 A8 c8 p4 true wb (Kd.C_below HP4v.out BW) HP4.out.2.1 (Kd.C_below HR4v.out.2.2 BW) HR4v.out.2.1 (same_state ⟨p0, p1, p2, p3, p4⟩ (by simp only; omega)))
          have hPB := Kd.C_below HPOv.out BW
          have hQ4 := Kd.C_below HQ4v.out BW
          have hP4 := Kd.C_below HP4v.out BW
          have hck1 := inv_check HIP.out
          have hck2 := inv_check HIQ.out
          have hsc : ∀ W, Below wb.heap.size wb W → Calls Try.prog 19 #[.slice Ao po.length co, .slice Ab po.length cb] W fun e w' => e = .returned (.bool true) ∧ Drawn0 W w' := fun W h => sameCells_calls po hpo Ao Ab co cb W (Kd.C_below hPB h) HPO.out.2.1 (Kd.C_below HCB.out h) hcb
          have hc1 : ∀ W, Below wb.heap.size wb W → Calls Try.prog 21 #[gridV g, .agg #[.int .i64 p0, .int .i64 p1, .int .i64 p2, .int .i64 p3, .slice A6 p4.length c6]] W fun e w' => e = .returned (.int .i64 0) ∧ Below W.heap.size W w' := by
            intro W h
            have x := check21_calls g ⟨p0, p1, p2, p3, p4⟩ A6 c6 W (Kd.C_below hP4 h) HP4.out.2.1 (by simp only; omega)
            rw [hck1] at x
            exact x
          have hc2 : ∀ W, Below wb.heap.size wb W → Calls Try.prog 21 #[gridV g, .agg #[.int .i64 q0, .int .i64 q1, .int .i64 q2, .int .i64 q3, .slice A7 q4.length c7]] W fun e w' => e = .returned (.int .i64 0) ∧ Below W.heap.size W w' := by
            intro W h
            have x := check21_calls g ⟨q0, q1, q2, q3, q4⟩ A7 c7 W (Kd.C_below hQ4 h) HCQ.out (by simp only; omega)
            rw [hck2] at x
            exact x
          have HSC := Lib.hid hsc
          have HC1 := Lib.hid hc1
          have HC2 := Lib.hid hc2
          clear BW hpc hrc hpo hPB hQ4 hP4 hck1 hck2 hsc hc1 hc2 hlen hq64 hp64
          go_wp2_with (first | (go_at_call 18; go_loud ((with_reducible refine HSAME.out.mono ?_); rintro e w1 ⟨rfl, hb1⟩; have HW1 := Lib.hid hb1; clear hb1)) | (go_at_call 19; go_loud ((with_reducible refine (HSC.out _ HW1.out).mono ?_); rintro e w2 ⟨rfl, hd2⟩; have hb2 := HW1.out.trans (hd2.below.mono HW1.out.size); obtain ⟨g0, g1, g2⟩ := cells3 (blk_below HG5.out hb2); obtain ⟨b0, b1, b2, b3, b4⟩ := cells5 (blk_below HP5.out hb2); have HW2 := Lib.hid hb2; clear hd2 hb2)) | (go_at_call 21; go_loud ((with_reducible refine (HC1.out _ HW2.out).mono ?_); rintro e w3 ⟨rfl, hd3⟩; have hb3 := HW2.out.trans (hd3.mono HW2.out.size); obtain ⟨g0, g1, g2⟩ := cells3 (blk_below HG5.out hb3); obtain ⟨x0, x1, x2, x3, x4⟩ := cells5 (blk_below HQ5.out hb3); have HW3 := Lib.hid hb3; clear hd3 hb3)) | (go_at_call 21; go_loud ((with_reducible refine (HC2.out _ HW3.out).mono ?_); rintro e w4 ⟨rfl, hd4⟩; have hb4 := HW3.out.trans (hd4.mono HW3.out.size); have HW4 := Lib.hid hb4; clear hd4 hb4)) | (go_at_call 20; go_loud ((with_reducible refine (awake_calls _).mono ?_); rintro e w9 ⟨rfl, hb9⟩; have HW9 := Lib.hid (HW4.out.trans (hb9.mono HW4.out.size)); clear hb9)))
          go_ret
          exact ⟨rfl, HBE.out.trans (HW9.out.mono HBE.out.size)⟩
end Go.Proofs.Ytgipepjpkmlmaaa.P
