import Derived.Test.YtgipepjpkmlmaaaE5
namespace Go.Proofs.Ytgipepjpkmlmaaa.P
open Go.RowKit Go.Proofs.YtgipepjpkmlmaaaW.PrintWords Go.Proofs.YtgipepjpkmlmaaaW.PrintLast Go.Proofs.YtgipepjpkmlmaaaW.PrintMore
set_option linter.unusedVariables false
set_option linter.unusedSimpArgs false

theorem C_nil46 (w : World) (A : Option Addr) : k46.C w A 0 [] := ⟨rfl, by omega, fun h => absurd h (by omega)⟩
/-- Records in a block of their own. -/
theorem recs_C {w : World} {g : Nat} (l : List S50) (hl : l.length ≤ 1000000) (h : w.heap[g]? = some (.cells (l.flatMap (fun r => [Value.int .i64 r.f0, .int .i64 r.f1, .string r.f2])).toArray 50 (0, 0))) : k50.C w (some ⟨g, 0, none⟩) l.length l := by
  refine ⟨rfl, by omega, fun _ => ⟨_, rfl, fun j p hj => ⟨[.int .i64 p.f0, .int .i64 p.f1, .string p.f2], rfl, k50_mk w p, fun i u hu => ?_⟩⟩⟩
  have hi : i < 3 := (List.getElem?_eq_some_iff.1 hu).1
  have e : ((⟨g, 0, none⟩ : Addr).add (j * k50.sz + i)) = ⟨g, j * 3 + i, none⟩ := by
    show (⟨g, 0, none⟩ : Addr).add (j * 3 + i) = _
    unfold Addr.add
    simp
    omega
  rw [e, blk_cell h, List.getElem?_toArray]
  have key : ∀ (l : List S50) (j : Nat), l[j]? = some p → (l.flatMap (fun r => [Value.int .i64 r.f0, .int .i64 r.f1, .string r.f2]))[j * 3 + i]? = [Value.int .i64 p.f0, .int .i64 p.f1, .string p.f2][i]? := by
    intro l
    induction l with
    | nil => intro j hj; simp at hj
    | cons x l ih =>
      intro j hj
      cases j with
      | zero =>
        have : x = p := by simpa using hj
        subst this
        rw [List.flatMap_cons, Nat.zero_mul, Nat.zero_add, List.getElem?_append_left (by simpa using hi)]
      | succ j =>
        rw [List.flatMap_cons, List.getElem?_append_right (by simp; omega)]
        rw [show (j + 1) * 3 + i - [Value.int .i64 x.f0, .int .i64 x.f1, .string x.f2].length = j * 3 + i by simp; omega]
        exact ih j (by simpa using hj)
  rw [key l j hj]
  exact hu
section
variable {P : Program} {ops : Array Oper} {Q : Exit → Act → World → Prop} {md : Region.Mode} {S : World → Prop}
theorem doD2 {i j : Nat} {o o2 : Oper} {fuel : Nat} {listed l2 l3 : Array Bool} {a : Act} {w : World} (hr : Region.ready md ops listed = [i, j]) (hi : ops.toList[i]? = some o) (hj : ops.toList[j]? = some o2) (hl : listed.setIfInBounds i true = l2) (hl3 : listed.setIfInBounds j true = l3)
    (hw : Region.wanted o (yielded ops a.tmps) = true) (hw2 : Region.wanted o2 (yielded ops a.tmps) = true)
    (h : ∀ K' : Act → World → Prop, Shut (∀ a w, S w → (S w → wpAnyH P md ops Q S fuel l2 a w) → K' a w) → Oper.wp P o a w K' Q)
    (h2 : ∀ K' : Act → World → Prop, Shut (∀ a w, S w → (S w → wpAnyH P md ops Q S fuel l3 a w) → K' a w) → Oper.wp P o2 a w K' Q) : wpAnyH P md ops Q S (fuel + 1) listed a w := by
  subst hl hl3
  refine wpAnyH_ready hr (by simp) (AllReadyH.cons (by rw [← hi, Array.getElem?_toList]) (fun K hK => ?_) (AllReadyH.cons (by rw [← hj, Array.getElem?_toList]) (fun K hK => ?_) AllReadyH.nil))
  · rw [if_pos hw]; exact h K hK
  · rw [if_pos hw2]; exact h2 K hK
end
theorem put5_belowZ {B g : Nat} {w0 w : World} {b0 b1 b2 b3 b4 : Value} (h : Below B w0 w) (hz : w.heap[g]? = some (.cells #[b0, b1, b2, b3, b4] 28 (0, 0))) (hg : B ≤ g) (a0 a1 a2 a3 a4 : Value) : Below B w0 (put5 w g a0 a1 a2 a3 a4) := put5_below h hg _ _ _ _ _
theorem put5_otherZ {w : World} {g k : Nat} {b0 b1 b2 b3 b4 : Value} (hz : w.heap[g]? = some (.cells #[b0, b1, b2, b3, b4] 28 (0, 0))) (h : k ≠ g) (a0 a1 a2 a3 a4 : Value) : (put5 w g a0 a1 a2 a3 a4).heap[k]? = w.heap[k]? := put5_other h _ _ _ _ _
/-- What awake holds behind its Run. -/
structure AwW (w wc : World) (v2 v3 v4 : Value) : Prop where
  e0 : v4 = .int .i64 0
  box : ∃ gb A c, v2 = .pointer (some ⟨gb, 0, none⟩) ∧ wc.heap[gb]? = some (.cells #[.int .i64 12, .int .i64 1, .int .i64 0, .int .i64 3, .slice A 1 c] 28 (0, 0))
  row : ∃ A c, v3 = .slice A 1 c ∧ k46.C wc A 1 (runP awG awZ awL).2.1
  bl : Below w.heap.size w wc
set_option maxHeartbeats 16000000 in
set_option maxRecDepth 100000 in
theorem awake_calls (w : World) : Calls Try.prog 20 #[] w fun e w' => e = .returned (.bool true) ∧ Below w.heap.size w w' := by
  have h16 := fun w => engine_Zero.calls (-1) 0 0 0 [] w rfl
  have h5 := fun w => headgatelaw16_of.calls 5 1 3 5 1 3 ⟨#[10]⟩ w (by unfold headgatelaw16_of.f; rw [aw5]; rfl)
  have h7 := fun w => headgatelaw16_of.calls 5 1 12 7 1 12 ⟨#[14]⟩ w (by unfold headgatelaw16_of.f; rw [aw7]; rfl)
  have h9 := fun w => headgatelaw16_of.calls 5 1 4 9 1 4 ⟨#[18]⟩ w (by unfold headgatelaw16_of.f; rw [aw9]; rfl)
  obtain ⟨P, hP⟩ : ∃ P, runP awG awZ awL = P := ⟨_, rfl⟩
  obtain ⟨⟨p0, p1, p2, p3, p4⟩, po, pe⟩ := P
  have a0 := awR0; have a1 := awR1; have a2 := awR2; have a3 := awR3; have a4 := awR4; have ae := awR; have ao := awO
  rw [hP] at a0 a1 a2 a3 a4 ae ao
  simp only at a0 a1 a2 a3 a4 ae ao
  subst a0 a1 a2 a3 ae
  have hrun : ∀ (W : World) (A B : Option Addr) (c : Nat), (A = none → ([] : List S46) = [] ∧ c = 0) → k50.C W B 3 awL → Calls Try.prog 15 #[.agg #[.int .i64 10, .int .i64 10, .int .i64 0], .agg #[.int .i64 (-1), .int .i64 0, .int .i64 0, .int .i64 0, .slice A 0 c], .slice B 3 3] W (FedP W (runP awG awZ awL)) :=
    fun W A B c hn hB => run_calls awG awZ awL A B c 3 W (C_nil46 W A) (Nat.zero_le _) (by decide) hn hB (by decide) (by decide) (by decide)
  rw [hP] at hrun
  have HRUN := Lib.hid hrun
  have H16 := Lib.hid h16
  have H5 := Lib.hid h5
  have H7 := Lib.hid h7
  have H9 := Lib.hid h9
  have HP := Lib.hid hP
  have HA4 := Lib.hid a4
  have HAO := Lib.hid ao
  clear hrun h16 h5 h7 h9 hP a4 ao
  obtain ⟨WX, hWX⟩ : ∃ W, W = w.alloc (.cells #[.int .i64 10, .int .i64 10, .int .i64 0] 23) := ⟨_, rfl⟩
  have hgX : WX.heap[w.heap.size]? = some (.cells #[.int .i64 10, .int .i64 10, .int .i64 0] 23 (0, 0)) := by rw [hWX]; exact heap_alloc_new _ _
  have hbX : Below w.heap.size w WX := by rw [hWX]; exact (Below.refl _ _).alloc (Nat.le_refl _) _
  have HGX := Lib.hid hgX
  have HBX := Lib.hid hbX
  have HWX := Lib.hid hWX
  clear hgX hbX hWX
  go_enter Try.func20, Try.ntmps20
  go_upto_region 2 with fail
  rw [← HWX.out]
  go_cut [2, 3, 4] from 5 to 16 (fun v2 v3 v4 wc => AwW w wc v2 v3 v4)
  case first =>
    refine wp_region_held_drew (S := fun w_ => Below WX.heap.size WX w_) (by kernel_rfl) (below_drew (Below.refl _ _)) (fun hS_ => ?_)
    have hS : Below WX.heap.size WX _ := hS_
    clear hS_
    change wpAnyH _ _ _ _ _ 15 #[false, false, false, false, false, false, false, false, false, false, false, false, false, false, false] _ _
    refine takeE 0 (some 7) #[true, false, false, false, false, false, false, false, false, false, false, false, false, false, false] hS ?_ (hy := fun w_ hS_ => by (replace hS_ : Below WX.heap.size WX w_ := hS_); have q_ := blk_below HGX.out hS_; have q0_ : w_.cell? ⟨w.heap.size, 0, none⟩ = some (.int .i64 10) := (blk_cell q_ 0).trans rfl; have q1_ : w_.cell? ⟨w.heap.size, 1, none⟩ = some (.int .i64 10) := (blk_cell q_ 1).trans rfl; have q2_ : w_.cell? ⟨w.heap.size, 2, none⟩ = some (.int .i64 0) := (blk_cell q_ 2).trans rfl; go_simp <;> with_reducible rfl)
    refine doD2 (i := 1) (j := 11) (l2 := #[true, true, false, false, false, false, false, false, false, false, false, false, false, false, false]) (l3 := #[true, false, false, false, false, false, false, false, false, false, false, true, false, false, false]) (by kernel_rfl) rfl rfl (by kernel_rfl) (by kernel_rfl) (by kernel_rfl) (by kernel_rfl) (fun K hK => ?_) (fun K hK => ?_)
    · go_simp
      go_wp2_with (first | (go_at_call 16; go_loud ((with_reducible refine (H16.out _).mono ?_); rintro e wq1 ⟨vz, rfl, hRz, hb1⟩; obtain ⟨Az, cz, rfl, hcz, _⟩ := Kd.R_reads hRz; have HNZ := Lib.hid (R_nil26 hRz); clear hRz hcz)))
      refine hK.out _ _ ?_ (fun hS_ => ?_)
      · show Below WX.heap.size WX _
        exact hS.trans (hb1.mono hS.size)
      clear hK K hS
      have hS : Below WX.heap.size WX _ := hS_
      clear hS_
      clear hb1
      refine doD2 (i := 2) (j := 11) (l2 := #[true, true, true, false, false, false, false, false, false, false, false, false, false, false, false]) (l3 := #[true, true, false, false, false, false, false, false, false, false, false, true, false, false, false]) (by kernel_rfl) rfl rfl (by kernel_rfl) (by kernel_rfl) (by kernel_rfl) (by kernel_rfl) (fun K hK => ?_) (fun K hK => ?_)
      · go_simp
        go_wp2_with (first | (go_at_call 25; go_loud ((with_reducible refine (H5.out _).mono ?_); rintro e wq2 ⟨rfl, hb2⟩)))
        refine hK.out _ _ ?_ (fun hS_ => ?_)
        · show Below WX.heap.size WX _
          exact hS.trans (hb2.mono hS.size)
        clear hK K hS
        have hS : Below WX.heap.size WX _ := hS_
        clear hS_
        clear hb2
        refine doD2 (i := 3) (j := 11) (l2 := #[true, true, true, true, false, false, false, false, false, false, false, false, false, false, false]) (l3 := #[true, true, true, false, false, false, false, false, false, false, false, true, false, false, false]) (by kernel_rfl) rfl rfl (by kernel_rfl) (by kernel_rfl) (by kernel_rfl) (by kernel_rfl) (fun K hK => ?_) (fun K hK => ?_)
        · go_simp
          go_wp2_with (first | (go_at_call 25; go_loud ((with_reducible refine (H7.out _).mono ?_); rintro e wq3 ⟨rfl, hb3⟩)))
          refine hK.out _ _ ?_ (fun hS_ => ?_)
          · show Below WX.heap.size WX _
            exact hS.trans (hb3.mono hS.size)
          clear hK K hS
          have hS : Below WX.heap.size WX _ := hS_
          clear hS_
          clear hb3
          refine doD2 (i := 4) (j := 11) (l2 := #[true, true, true, true, true, false, false, false, false, false, false, false, false, false, false]) (l3 := #[true, true, true, true, false, false, false, false, false, false, false, true, false, false, false]) (by kernel_rfl) rfl rfl (by kernel_rfl) (by kernel_rfl) (by kernel_rfl) (by kernel_rfl) (fun K hK => ?_) (fun K hK => ?_)
          · go_simp
            go_wp2_with (first | (go_at_call 25; go_loud ((with_reducible refine (H9.out _).mono ?_); rintro e wq4 ⟨rfl, hb4⟩)))
            refine hK.out _ _ ?_ (fun hS_ => ?_)
            · show Below WX.heap.size WX _
              exact hS.trans (hb4.mono hS.size)
            clear hK K hS
            have hS : Below WX.heap.size WX _ := hS_
            clear hS_
            clear hb4
            refine doD2 (i := 5) (j := 11) (l2 := #[true, true, true, true, true, true, false, false, false, false, false, false, false, false, false]) (l3 := #[true, true, true, true, true, false, false, false, false, false, false, true, false, false, false]) (by kernel_rfl) rfl rfl (by kernel_rfl) (by kernel_rfl) (by kernel_rfl) (by kernel_rfl) (fun K hK => ?_) (fun K hK => ?_)
            · go_simp
              refine hK.out _ _ ?_ (fun hS_ => ?_)
              · show Below WX.heap.size WX _
                exact hS.alloc hS.size _
              clear hK K hS
              have hS : Below WX.heap.size WX _ := hS_
              clear hS_
              have HC := Lib.hid (recs_C (w := wq4.alloc (.cells #[.int .i64 1, .int .i64 3, .string ⟨#[10]⟩, .int .i64 1, .int .i64 12, .string ⟨#[14]⟩, .int .i64 1, .int .i64 4, .string ⟨#[18]⟩] 50)) (g := wq4.heap.size) awL (by decide) (heap_alloc_new _ _))
              refine doD2 (i := 6) (j := 11) (l2 := #[true, true, true, true, true, true, true, false, false, false, false, false, false, false, false]) (l3 := #[true, true, true, true, true, true, false, false, false, false, false, true, false, false, false]) (by kernel_rfl) rfl rfl (by kernel_rfl) (by kernel_rfl) (by kernel_rfl) (by kernel_rfl) (fun K hK => ?_) (fun K hK => ?_)
              · go_simp
                go_wp2_with (first | (go_at_call 15; go_loud ((with_reducible refine (HRUN.out _ _ _ _ HNZ.out ?hB).mono ?_); (case hB => exact HC.out); rintro e wr ⟨v6, vo, rfl, hR6, hRo, hb6⟩; obtain ⟨A6, c6, rfl, hc6, _⟩ := Kd.R_reads hR6; obtain ⟨Ao, co, rfl, hco, _⟩ := Kd.R_reads hRo; have a4 := HA4.out; have ao := HAO.out; have HR6 := Lib.hid hRo; clear hR6 hRo)))
                refine hK.out _ _ ?_ (fun hS_ => ?_)
                · show Below WX.heap.size WX _
                  exact hS.trans (hb6.mono hS.size)
                clear hK K hS
                have hS : Below WX.heap.size WX _ := hS_
                clear hS_
                clear hb6
                have hSr := Lib.hid hS
                refine takeE 7 (some 6) #[true, true, true, true, true, true, true, true, false, false, false, false, false, false, false] hS ?_
                refine takeE 8 (some 14) #[true, true, true, true, true, true, true, true, true, false, false, false, false, false, false] hS ?_
                refine takeE 9 (some 15) #[true, true, true, true, true, true, true, true, true, true, false, false, false, false, false] hS ?_
                refine takeE 10 (some 16) #[true, true, true, true, true, true, true, true, true, true, true, false, false, false, false] hS ?_
                refine doD (i := 11) (ls2 := #[true, true, true, true, true, true, true, true, true, true, true, true, false, false, false]) (by kernel_rfl) rfl (by kernel_rfl) (by kernel_rfl) (fun K hK => ?_)
                go_simp
                refine hK.out _ _ ?_ (fun hS_ => ?_)
                · show Below WX.heap.size WX _
                  exact hS.alloc hS.size _
                clear hK K hS
                have hS : Below WX.heap.size WX _ := hS_
                clear hS_
                refine doD (i := 12) (ls2 := #[true, true, true, true, true, true, true, true, true, true, true, true, true, false, false]) (by kernel_rfl) rfl (by kernel_rfl) (by kernel_rfl) (fun K hK => ?_)
                go_simp
                refine hK.out _ _ ?_ (fun hS_ => ?_)
                · show Below WX.heap.size WX _
                  exact (hSr.out).alloc hSr.out.size _
                clear hK K hS
                have hS : Below WX.heap.size WX _ := hS_
                clear hS_
                refine takeE 13 (some 3) #[true, true, true, true, true, true, true, true, true, true, true, true, true, true, false] hS ?_
                refine takeE 14 (some 4) #[true, true, true, true, true, true, true, true, true, true, true, true, true, true, true] hS ?_
                refine wpAnyH_done (by kernel_rfl) ?_ _
                go_wp2
                go_meet
                case rel =>
                  refine ⟨rfl, ⟨_, _, _, rfl, heap_alloc_new _ _⟩, ⟨_, _, rfl, ?_⟩, (HBX.out.trans (hS.mono HBX.out.size))⟩
                  rw [HP.out]
                  have h7 := Kd.C_below (Kd.R_reads' HR6.out).2.2 ((Below.refl _ _).alloc (Nat.le_refl _) (.cells #[.int .i64 12, .int .i64 1, .int .i64 0, .int .i64 3, .slice A6 1 c6] 28))
                  rw [HAO.out] at h7
                  exact h7
              · have hgbl := Lib.hid hS.size
                go_simp
                refine hK.out _ _ ?_ (fun hS_ => ?_)
                · show Below WX.heap.size WX _
                  exact hS.alloc hS.size _
                clear hK K hS
                have hS : Below WX.heap.size WX _ := hS_
                clear hS_
                have HGB := hgbl
                clear hgbl
                refine doD (i := 6) (ls2 := #[true, true, true, true, true, true, true, false, false, false, false, true, false, false, false]) (by kernel_rfl) rfl (by kernel_rfl) (by kernel_rfl) (fun K hK => ?_)
                go_simp
                go_wp2_with (first | (go_at_call 15; go_loud ((with_reducible refine (HRUN.out _ _ _ _ HNZ.out ?hB).mono ?_); (case hB => exact Kd.C_below HC.out ((Below.refl _ _).alloc (Nat.le_refl _) _)); have hz0 : (World.heap ((wq4.alloc (.cells #[.int .i64 1, .int .i64 3, .string ⟨#[10]⟩, .int .i64 1, .int .i64 12, .string ⟨#[14]⟩, .int .i64 1, .int .i64 4, .string ⟨#[18]⟩] 50)).alloc (.cells #[.int .i64 0, .int .i64 0, .int .i64 0, .int .i64 0, .slice none 0 0] 28)))[wq4.heap.size + 1]? = some (.cells #[.int .i64 0, .int .i64 0, .int .i64 0, .int .i64 0, .slice none 0 0] 28 (0, 0)) := (by have h0 := heap_alloc_new (wq4.alloc (.cells #[.int .i64 1, .int .i64 3, .string ⟨#[10]⟩, .int .i64 1, .int .i64 12, .string ⟨#[14]⟩, .int .i64 1, .int .i64 4, .string ⟨#[18]⟩] 50)) (.cells #[.int .i64 0, .int .i64 0, .int .i64 0, .int .i64 0, .slice none 0 0] 28); simpa using h0); have HZ := Lib.hid hz0; clear hz0; rintro e wr ⟨v6, vo, rfl, hR6, hRo, hb6⟩; obtain ⟨A6, c6, rfl, hc6, _⟩ := Kd.R_reads hR6; obtain ⟨Ao, co, rfl, hco, _⟩ := Kd.R_reads hRo; have a4 := HA4.out; have ao := HAO.out; have hzl := lt_of_block HZ.out; have hz6 := blk_below HZ.out hb6; have HR6 := Lib.hid (R_base hRo (Nat.le_refl _) (Nat.le_refl _)); have HZL := Lib.hid hzl; have z0_ : wr.cell? ⟨_, 0, none⟩ = some (.int .i64 0) := (blk_cell hz6 0).trans rfl; have z1_ : wr.cell? ⟨_, 1, none⟩ = some (.int .i64 0) := (blk_cell hz6 1).trans rfl; have z2_ : wr.cell? ⟨_, 2, none⟩ = some (.int .i64 0) := (blk_cell hz6 2).trans rfl; have z3_ : wr.cell? ⟨_, 3, none⟩ = some (.int .i64 0) := (blk_cell hz6 3).trans rfl; have z4_ : wr.cell? ⟨_, 4, none⟩ = some (.slice none 0 0) := (blk_cell hz6 4).trans rfl; have y0_ : wr.frozen? ⟨_, 0, none⟩ = false := blk_frozen hz6 0; have y1_ : wr.frozen? ⟨_, 1, none⟩ = false := blk_frozen hz6 1; have y2_ : wr.frozen? ⟨_, 2, none⟩ = false := blk_frozen hz6 2; have y3_ : wr.frozen? ⟨_, 3, none⟩ = false := blk_frozen hz6 3; have y4_ : wr.frozen? ⟨_, 4, none⟩ = false := blk_frozen hz6 4; replace HZ := Lib.hid hz6; clear hz6 hzl; clear hR6 hRo)))
                refine hK.out _ _ ?_ (fun hS_ => ?_)
                · show Below WX.heap.size WX _
                  exact hS.trans (hb6.mono hS.size)
                clear hK K hS
                have hS : Below WX.heap.size WX _ := hS_
                clear hS_
                clear hb6
                refine takeE 7 (some 6) #[true, true, true, true, true, true, true, true, false, false, false, true, false, false, false] hS ?_
                refine takeE 8 (some 14) #[true, true, true, true, true, true, true, true, true, false, false, true, false, false, false] hS ?_
                refine takeE 9 (some 15) #[true, true, true, true, true, true, true, true, true, true, false, true, false, false, false] hS ?_
                refine takeE 10 (some 16) #[true, true, true, true, true, true, true, true, true, true, true, true, false, false, false] hS ?_
                refine doD (i := 12) (ls2 := #[true, true, true, true, true, true, true, true, true, true, true, true, true, false, false]) (by kernel_rfl) rfl (by kernel_rfl) (by kernel_rfl) (fun K hK => ?_)
                go_simp
                refine hK.out _ _ ?_ (fun hS_ => ?_)
                · show Below WX.heap.size WX _
                  exact put5_belowZ hS HZ.out (by have h0 := HGB.out; first | omega | (simp at h0; omega)) (.int .i64 12) (.int .i64 1) (.int .i64 0) (.int .i64 3) (.slice A6 1 c6)
                clear hK K hS
                have hS : Below WX.heap.size WX _ := hS_
                clear hS_
                refine takeE 13 (some 3) #[true, true, true, true, true, true, true, true, true, true, true, true, true, true, false] hS ?_
                refine takeE 14 (some 4) #[true, true, true, true, true, true, true, true, true, true, true, true, true, true, true] hS ?_
                refine wpAnyH_done (by kernel_rfl) ?_ _
                go_wp2
                go_meet
                case rel =>
                  refine ⟨rfl, ⟨_, _, _, rfl, put5_heap HZ.out (.int .i64 12) (.int .i64 1) (.int .i64 0) (.int .i64 3) (.slice A6 1 c6)⟩, ⟨_, _, rfl, ?_⟩, (HBX.out.trans (hS.mono HBX.out.size))⟩
                  rw [HP.out]
                  have h6 := R_other HR6.out (fun k hk => put5_otherZ HZ.out (by have := HZL.out; omega) (.int .i64 12) (.int .i64 1) (.int .i64 0) (.int .i64 3) (.slice A6 1 c6))
                  have h7 := (Kd.R_reads' h6).2.2
                  rw [HAO.out] at h7
                  exact h7
            · have hgbl := Lib.hid hS.size
              go_simp
              refine hK.out _ _ ?_ (fun hS_ => ?_)
              · show Below WX.heap.size WX _
                exact hS.alloc hS.size _
              clear hK K hS
              have hS : Below WX.heap.size WX _ := hS_
              clear hS_
              have HGB := hgbl
              clear hgbl
              refine doD (i := 5) (ls2 := #[true, true, true, true, true, true, false, false, false, false, false, true, false, false, false]) (by kernel_rfl) rfl (by kernel_rfl) (by kernel_rfl) (fun K hK => ?_)
              go_simp
              refine hK.out _ _ ?_ (fun hS_ => ?_)
              · show Below WX.heap.size WX _
                exact hS.alloc hS.size _
              clear hK K hS
              have hS : Below WX.heap.size WX _ := hS_
              clear hS_
              have hc0 : (World.heap ((wq4.alloc (.cells #[.int .i64 0, .int .i64 0, .int .i64 0, .int .i64 0, .slice none 0 0] 28)).alloc (.cells #[.int .i64 1, .int .i64 3, .string ⟨#[10]⟩, .int .i64 1, .int .i64 12, .string ⟨#[14]⟩, .int .i64 1, .int .i64 4, .string ⟨#[18]⟩] 50)))[wq4.heap.size + 1]? = some (.cells #[.int .i64 1, .int .i64 3, .string ⟨#[10]⟩, .int .i64 1, .int .i64 12, .string ⟨#[14]⟩, .int .i64 1, .int .i64 4, .string ⟨#[18]⟩] 50 (0, 0)) := by have h0 := heap_alloc_new (wq4.alloc (.cells #[.int .i64 0, .int .i64 0, .int .i64 0, .int .i64 0, .slice none 0 0] 28)) (.cells #[.int .i64 1, .int .i64 3, .string ⟨#[10]⟩, .int .i64 1, .int .i64 12, .string ⟨#[14]⟩, .int .i64 1, .int .i64 4, .string ⟨#[18]⟩] 50); simpa using h0
              have HC := Lib.hid (recs_C (g := wq4.heap.size + 1) awL (by decide) hc0)
              clear hc0
              have HZ := Lib.hid ((Below.heap_alloc (wq4.alloc (.cells #[.int .i64 0, .int .i64 0, .int .i64 0, .int .i64 0, .slice none 0 0] 28)) (.cells #[.int .i64 1, .int .i64 3, .string ⟨#[10]⟩, .int .i64 1, .int .i64 12, .string ⟨#[14]⟩, .int .i64 1, .int .i64 4, .string ⟨#[18]⟩] 50) wq4.heap.size (by simp)).trans (heap_alloc_new wq4 (.cells #[.int .i64 0, .int .i64 0, .int .i64 0, .int .i64 0, .slice none 0 0] 28)))
              refine doD (i := 6) (ls2 := #[true, true, true, true, true, true, true, false, false, false, false, true, false, false, false]) (by kernel_rfl) rfl (by kernel_rfl) (by kernel_rfl) (fun K hK => ?_)
              go_simp
              go_wp2_with (first | (go_at_call 15; go_loud ((with_reducible refine (HRUN.out _ _ _ _ HNZ.out ?hB).mono ?_); (case hB => exact HC.out); rintro e wr ⟨v6, vo, rfl, hR6, hRo, hb6⟩; obtain ⟨A6, c6, rfl, hc6, _⟩ := Kd.R_reads hR6; obtain ⟨Ao, co, rfl, hco, _⟩ := Kd.R_reads hRo; have a4 := HA4.out; have ao := HAO.out; have hzl := lt_of_block HZ.out; have hz6 := blk_below HZ.out hb6; have HR6 := Lib.hid (R_base hRo (Nat.le_refl _) (Nat.le_refl _)); have HZL := Lib.hid hzl; have z0_ : wr.cell? ⟨_, 0, none⟩ = some (.int .i64 0) := (blk_cell hz6 0).trans rfl; have z1_ : wr.cell? ⟨_, 1, none⟩ = some (.int .i64 0) := (blk_cell hz6 1).trans rfl; have z2_ : wr.cell? ⟨_, 2, none⟩ = some (.int .i64 0) := (blk_cell hz6 2).trans rfl; have z3_ : wr.cell? ⟨_, 3, none⟩ = some (.int .i64 0) := (blk_cell hz6 3).trans rfl; have z4_ : wr.cell? ⟨_, 4, none⟩ = some (.slice none 0 0) := (blk_cell hz6 4).trans rfl; have y0_ : wr.frozen? ⟨_, 0, none⟩ = false := blk_frozen hz6 0; have y1_ : wr.frozen? ⟨_, 1, none⟩ = false := blk_frozen hz6 1; have y2_ : wr.frozen? ⟨_, 2, none⟩ = false := blk_frozen hz6 2; have y3_ : wr.frozen? ⟨_, 3, none⟩ = false := blk_frozen hz6 3; have y4_ : wr.frozen? ⟨_, 4, none⟩ = false := blk_frozen hz6 4; replace HZ := Lib.hid hz6; clear hz6 hzl; clear hR6 hRo)))
              refine hK.out _ _ ?_ (fun hS_ => ?_)
              · show Below WX.heap.size WX _
                exact hS.trans (hb6.mono hS.size)
              clear hK K hS
              have hS : Below WX.heap.size WX _ := hS_
              clear hS_
              clear hb6
              refine takeE 7 (some 6) #[true, true, true, true, true, true, true, true, false, false, false, true, false, false, false] hS ?_
              refine takeE 8 (some 14) #[true, true, true, true, true, true, true, true, true, false, false, true, false, false, false] hS ?_
              refine takeE 9 (some 15) #[true, true, true, true, true, true, true, true, true, true, false, true, false, false, false] hS ?_
              refine takeE 10 (some 16) #[true, true, true, true, true, true, true, true, true, true, true, true, false, false, false] hS ?_
              refine doD (i := 12) (ls2 := #[true, true, true, true, true, true, true, true, true, true, true, true, true, false, false]) (by kernel_rfl) rfl (by kernel_rfl) (by kernel_rfl) (fun K hK => ?_)
              go_simp
              refine hK.out _ _ ?_ (fun hS_ => ?_)
              · show Below WX.heap.size WX _
                exact put5_belowZ hS HZ.out (by have h0 := HGB.out; first | omega | (simp at h0; omega)) (.int .i64 12) (.int .i64 1) (.int .i64 0) (.int .i64 3) (.slice A6 1 c6)
              clear hK K hS
              have hS : Below WX.heap.size WX _ := hS_
              clear hS_
              refine takeE 13 (some 3) #[true, true, true, true, true, true, true, true, true, true, true, true, true, true, false] hS ?_
              refine takeE 14 (some 4) #[true, true, true, true, true, true, true, true, true, true, true, true, true, true, true] hS ?_
              refine wpAnyH_done (by kernel_rfl) ?_ _
              go_wp2
              go_meet
              case rel =>
                refine ⟨rfl, ⟨_, _, _, rfl, put5_heap HZ.out (.int .i64 12) (.int .i64 1) (.int .i64 0) (.int .i64 3) (.slice A6 1 c6)⟩, ⟨_, _, rfl, ?_⟩, (HBX.out.trans (hS.mono HBX.out.size))⟩
                rw [HP.out]
                have h6 := R_other HR6.out (fun k hk => put5_otherZ HZ.out (by have := HZL.out; omega) (.int .i64 12) (.int .i64 1) (.int .i64 0) (.int .i64 3) (.slice A6 1 c6))
                have h7 := (Kd.R_reads' h6).2.2
                rw [HAO.out] at h7
                exact h7
          · have hgbl := Lib.hid hS.size
            go_simp
            refine hK.out _ _ ?_ (fun hS_ => ?_)
            · show Below WX.heap.size WX _
              exact hS.alloc hS.size _
            clear hK K hS
            have hS : Below WX.heap.size WX _ := hS_
            clear hS_
            have HGB := hgbl
            clear hgbl
            refine doD (i := 4) (ls2 := #[true, true, true, true, true, false, false, false, false, false, false, true, false, false, false]) (by kernel_rfl) rfl (by kernel_rfl) (by kernel_rfl) (fun K hK => ?_)
            go_simp
            go_wp2_with (first | (go_at_call 25; go_loud ((with_reducible refine (H9.out _).mono ?_); rintro e wq4 ⟨rfl, hb4⟩; have hz4 := blk_below (heap_alloc_new _ _) hb4; have HZ := Lib.hid hz4; clear hz4)))
            refine hK.out _ _ ?_ (fun hS_ => ?_)
            · show Below WX.heap.size WX _
              exact hS.trans (hb4.mono hS.size)
            clear hK K hS
            have hS : Below WX.heap.size WX _ := hS_
            clear hS_
            clear hb4
            refine doD (i := 5) (ls2 := #[true, true, true, true, true, true, false, false, false, false, false, true, false, false, false]) (by kernel_rfl) rfl (by kernel_rfl) (by kernel_rfl) (fun K hK => ?_)
            go_simp
            refine hK.out _ _ ?_ (fun hS_ => ?_)
            · show Below WX.heap.size WX _
              exact hS.alloc hS.size _
            clear hK K hS
            have hS : Below WX.heap.size WX _ := hS_
            clear hS_
            have HC := Lib.hid (recs_C (w := wq4.alloc (.cells #[.int .i64 1, .int .i64 3, .string ⟨#[10]⟩, .int .i64 1, .int .i64 12, .string ⟨#[14]⟩, .int .i64 1, .int .i64 4, .string ⟨#[18]⟩] 50)) (g := wq4.heap.size) awL (by decide) (heap_alloc_new _ _))
            replace HZ := Lib.hid ((Below.heap_alloc wq4 (.cells #[.int .i64 1, .int .i64 3, .string ⟨#[10]⟩, .int .i64 1, .int .i64 12, .string ⟨#[14]⟩, .int .i64 1, .int .i64 4, .string ⟨#[18]⟩] 50) _ (lt_of_block HZ.out)).trans HZ.out)
            refine doD (i := 6) (ls2 := #[true, true, true, true, true, true, true, false, false, false, false, true, false, false, false]) (by kernel_rfl) rfl (by kernel_rfl) (by kernel_rfl) (fun K hK => ?_)
            go_simp
            go_wp2_with (first | (go_at_call 15; go_loud ((with_reducible refine (HRUN.out _ _ _ _ HNZ.out ?hB).mono ?_); (case hB => exact HC.out); rintro e wr ⟨v6, vo, rfl, hR6, hRo, hb6⟩; obtain ⟨A6, c6, rfl, hc6, _⟩ := Kd.R_reads hR6; obtain ⟨Ao, co, rfl, hco, _⟩ := Kd.R_reads hRo; have a4 := HA4.out; have ao := HAO.out; have hzl := lt_of_block HZ.out; have hz6 := blk_below HZ.out hb6; have HR6 := Lib.hid (R_base hRo (Nat.le_refl _) (Nat.le_refl _)); have HZL := Lib.hid hzl; have z0_ : wr.cell? ⟨_, 0, none⟩ = some (.int .i64 0) := (blk_cell hz6 0).trans rfl; have z1_ : wr.cell? ⟨_, 1, none⟩ = some (.int .i64 0) := (blk_cell hz6 1).trans rfl; have z2_ : wr.cell? ⟨_, 2, none⟩ = some (.int .i64 0) := (blk_cell hz6 2).trans rfl; have z3_ : wr.cell? ⟨_, 3, none⟩ = some (.int .i64 0) := (blk_cell hz6 3).trans rfl; have z4_ : wr.cell? ⟨_, 4, none⟩ = some (.slice none 0 0) := (blk_cell hz6 4).trans rfl; have y0_ : wr.frozen? ⟨_, 0, none⟩ = false := blk_frozen hz6 0; have y1_ : wr.frozen? ⟨_, 1, none⟩ = false := blk_frozen hz6 1; have y2_ : wr.frozen? ⟨_, 2, none⟩ = false := blk_frozen hz6 2; have y3_ : wr.frozen? ⟨_, 3, none⟩ = false := blk_frozen hz6 3; have y4_ : wr.frozen? ⟨_, 4, none⟩ = false := blk_frozen hz6 4; replace HZ := Lib.hid hz6; clear hz6 hzl; clear hR6 hRo)))
            refine hK.out _ _ ?_ (fun hS_ => ?_)
            · show Below WX.heap.size WX _
              exact hS.trans (hb6.mono hS.size)
            clear hK K hS
            have hS : Below WX.heap.size WX _ := hS_
            clear hS_
            clear hb6
            refine takeE 7 (some 6) #[true, true, true, true, true, true, true, true, false, false, false, true, false, false, false] hS ?_
            refine takeE 8 (some 14) #[true, true, true, true, true, true, true, true, true, false, false, true, false, false, false] hS ?_
            refine takeE 9 (some 15) #[true, true, true, true, true, true, true, true, true, true, false, true, false, false, false] hS ?_
            refine takeE 10 (some 16) #[true, true, true, true, true, true, true, true, true, true, true, true, false, false, false] hS ?_
            refine doD (i := 12) (ls2 := #[true, true, true, true, true, true, true, true, true, true, true, true, true, false, false]) (by kernel_rfl) rfl (by kernel_rfl) (by kernel_rfl) (fun K hK => ?_)
            go_simp
            refine hK.out _ _ ?_ (fun hS_ => ?_)
            · show Below WX.heap.size WX _
              exact put5_belowZ hS HZ.out (by have h0 := HGB.out; first | omega | (simp at h0; omega)) (.int .i64 12) (.int .i64 1) (.int .i64 0) (.int .i64 3) (.slice A6 1 c6)
            clear hK K hS
            have hS : Below WX.heap.size WX _ := hS_
            clear hS_
            refine takeE 13 (some 3) #[true, true, true, true, true, true, true, true, true, true, true, true, true, true, false] hS ?_
            refine takeE 14 (some 4) #[true, true, true, true, true, true, true, true, true, true, true, true, true, true, true] hS ?_
            refine wpAnyH_done (by kernel_rfl) ?_ _
            go_wp2
            go_meet
            case rel =>
              refine ⟨rfl, ⟨_, _, _, rfl, put5_heap HZ.out (.int .i64 12) (.int .i64 1) (.int .i64 0) (.int .i64 3) (.slice A6 1 c6)⟩, ⟨_, _, rfl, ?_⟩, (HBX.out.trans (hS.mono HBX.out.size))⟩
              rw [HP.out]
              have h6 := R_other HR6.out (fun k hk => put5_otherZ HZ.out (by have := HZL.out; omega) (.int .i64 12) (.int .i64 1) (.int .i64 0) (.int .i64 3) (.slice A6 1 c6))
              have h7 := (Kd.R_reads' h6).2.2
              rw [HAO.out] at h7
              exact h7
        · have hgbl := Lib.hid hS.size
          go_simp
          refine hK.out _ _ ?_ (fun hS_ => ?_)
          · show Below WX.heap.size WX _
            exact hS.alloc hS.size _
          clear hK K hS
          have hS : Below WX.heap.size WX _ := hS_
          clear hS_
          have HGB := hgbl
          clear hgbl
          refine doD (i := 3) (ls2 := #[true, true, true, true, false, false, false, false, false, false, false, true, false, false, false]) (by kernel_rfl) rfl (by kernel_rfl) (by kernel_rfl) (fun K hK => ?_)
          go_simp
          go_wp2_with (first | (go_at_call 25; go_loud ((with_reducible refine (H7.out _).mono ?_); rintro e wq3 ⟨rfl, hb3⟩; have hz3 := blk_below (heap_alloc_new _ _) hb3; have HZ := Lib.hid hz3; clear hz3)))
          refine hK.out _ _ ?_ (fun hS_ => ?_)
          · show Below WX.heap.size WX _
            exact hS.trans (hb3.mono hS.size)
          clear hK K hS
          have hS : Below WX.heap.size WX _ := hS_
          clear hS_
          clear hb3
          refine doD (i := 4) (ls2 := #[true, true, true, true, true, false, false, false, false, false, false, true, false, false, false]) (by kernel_rfl) rfl (by kernel_rfl) (by kernel_rfl) (fun K hK => ?_)
          go_simp
          go_wp2_with (first | (go_at_call 25; go_loud ((with_reducible refine (H9.out _).mono ?_); rintro e wq4 ⟨rfl, hb4⟩; have hz4 := blk_below HZ.out hb4; replace HZ := Lib.hid hz4; clear hz4)))
          refine hK.out _ _ ?_ (fun hS_ => ?_)
          · show Below WX.heap.size WX _
            exact hS.trans (hb4.mono hS.size)
          clear hK K hS
          have hS : Below WX.heap.size WX _ := hS_
          clear hS_
          clear hb4
          refine doD (i := 5) (ls2 := #[true, true, true, true, true, true, false, false, false, false, false, true, false, false, false]) (by kernel_rfl) rfl (by kernel_rfl) (by kernel_rfl) (fun K hK => ?_)
          go_simp
          refine hK.out _ _ ?_ (fun hS_ => ?_)
          · show Below WX.heap.size WX _
            exact hS.alloc hS.size _
          clear hK K hS
          have hS : Below WX.heap.size WX _ := hS_
          clear hS_
          have HC := Lib.hid (recs_C (w := wq4.alloc (.cells #[.int .i64 1, .int .i64 3, .string ⟨#[10]⟩, .int .i64 1, .int .i64 12, .string ⟨#[14]⟩, .int .i64 1, .int .i64 4, .string ⟨#[18]⟩] 50)) (g := wq4.heap.size) awL (by decide) (heap_alloc_new _ _))
          replace HZ := Lib.hid ((Below.heap_alloc wq4 (.cells #[.int .i64 1, .int .i64 3, .string ⟨#[10]⟩, .int .i64 1, .int .i64 12, .string ⟨#[14]⟩, .int .i64 1, .int .i64 4, .string ⟨#[18]⟩] 50) _ (lt_of_block HZ.out)).trans HZ.out)
          refine doD (i := 6) (ls2 := #[true, true, true, true, true, true, true, false, false, false, false, true, false, false, false]) (by kernel_rfl) rfl (by kernel_rfl) (by kernel_rfl) (fun K hK => ?_)
          go_simp
          go_wp2_with (first | (go_at_call 15; go_loud ((with_reducible refine (HRUN.out _ _ _ _ HNZ.out ?hB).mono ?_); (case hB => exact HC.out); rintro e wr ⟨v6, vo, rfl, hR6, hRo, hb6⟩; obtain ⟨A6, c6, rfl, hc6, _⟩ := Kd.R_reads hR6; obtain ⟨Ao, co, rfl, hco, _⟩ := Kd.R_reads hRo; have a4 := HA4.out; have ao := HAO.out; have hzl := lt_of_block HZ.out; have hz6 := blk_below HZ.out hb6; have HR6 := Lib.hid (R_base hRo (Nat.le_refl _) (Nat.le_refl _)); have HZL := Lib.hid hzl; have z0_ : wr.cell? ⟨_, 0, none⟩ = some (.int .i64 0) := (blk_cell hz6 0).trans rfl; have z1_ : wr.cell? ⟨_, 1, none⟩ = some (.int .i64 0) := (blk_cell hz6 1).trans rfl; have z2_ : wr.cell? ⟨_, 2, none⟩ = some (.int .i64 0) := (blk_cell hz6 2).trans rfl; have z3_ : wr.cell? ⟨_, 3, none⟩ = some (.int .i64 0) := (blk_cell hz6 3).trans rfl; have z4_ : wr.cell? ⟨_, 4, none⟩ = some (.slice none 0 0) := (blk_cell hz6 4).trans rfl; have y0_ : wr.frozen? ⟨_, 0, none⟩ = false := blk_frozen hz6 0; have y1_ : wr.frozen? ⟨_, 1, none⟩ = false := blk_frozen hz6 1; have y2_ : wr.frozen? ⟨_, 2, none⟩ = false := blk_frozen hz6 2; have y3_ : wr.frozen? ⟨_, 3, none⟩ = false := blk_frozen hz6 3; have y4_ : wr.frozen? ⟨_, 4, none⟩ = false := blk_frozen hz6 4; replace HZ := Lib.hid hz6; clear hz6 hzl; clear hR6 hRo)))
          refine hK.out _ _ ?_ (fun hS_ => ?_)
          · show Below WX.heap.size WX _
            exact hS.trans (hb6.mono hS.size)
          clear hK K hS
          have hS : Below WX.heap.size WX _ := hS_
          clear hS_
          clear hb6
          refine takeE 7 (some 6) #[true, true, true, true, true, true, true, true, false, false, false, true, false, false, false] hS ?_
          refine takeE 8 (some 14) #[true, true, true, true, true, true, true, true, true, false, false, true, false, false, false] hS ?_
          refine takeE 9 (some 15) #[true, true, true, true, true, true, true, true, true, true, false, true, false, false, false] hS ?_
          refine takeE 10 (some 16) #[true, true, true, true, true, true, true, true, true, true, true, true, false, false, false] hS ?_
          refine doD (i := 12) (ls2 := #[true, true, true, true, true, true, true, true, true, true, true, true, true, false, false]) (by kernel_rfl) rfl (by kernel_rfl) (by kernel_rfl) (fun K hK => ?_)
          go_simp
          refine hK.out _ _ ?_ (fun hS_ => ?_)
          · show Below WX.heap.size WX _
            exact put5_belowZ hS HZ.out (by have h0 := HGB.out; first | omega | (simp at h0; omega)) (.int .i64 12) (.int .i64 1) (.int .i64 0) (.int .i64 3) (.slice A6 1 c6)
          clear hK K hS
          have hS : Below WX.heap.size WX _ := hS_
          clear hS_
          refine takeE 13 (some 3) #[true, true, true, true, true, true, true, true, true, true, true, true, true, true, false] hS ?_
          refine takeE 14 (some 4) #[true, true, true, true, true, true, true, true, true, true, true, true, true, true, true] hS ?_
          refine wpAnyH_done (by kernel_rfl) ?_ _
          go_wp2
          go_meet
          case rel =>
            refine ⟨rfl, ⟨_, _, _, rfl, put5_heap HZ.out (.int .i64 12) (.int .i64 1) (.int .i64 0) (.int .i64 3) (.slice A6 1 c6)⟩, ⟨_, _, rfl, ?_⟩, (HBX.out.trans (hS.mono HBX.out.size))⟩
            rw [HP.out]
            have h6 := R_other HR6.out (fun k hk => put5_otherZ HZ.out (by have := HZL.out; omega) (.int .i64 12) (.int .i64 1) (.int .i64 0) (.int .i64 3) (.slice A6 1 c6))
            have h7 := (Kd.R_reads' h6).2.2
            rw [HAO.out] at h7
            exact h7
      · have hgbl := Lib.hid hS.size
        go_simp
        refine hK.out _ _ ?_ (fun hS_ => ?_)
        · show Below WX.heap.size WX _
          exact hS.alloc hS.size _
        clear hK K hS
        have hS : Below WX.heap.size WX _ := hS_
        clear hS_
        have HGB := hgbl
        clear hgbl
        refine doD (i := 2) (ls2 := #[true, true, true, false, false, false, false, false, false, false, false, true, false, false, false]) (by kernel_rfl) rfl (by kernel_rfl) (by kernel_rfl) (fun K hK => ?_)
        go_simp
        go_wp2_with (first | (go_at_call 25; go_loud ((with_reducible refine (H5.out _).mono ?_); rintro e wq2 ⟨rfl, hb2⟩; have hz2 := blk_below (heap_alloc_new _ _) hb2; have HZ := Lib.hid hz2; clear hz2)))
        refine hK.out _ _ ?_ (fun hS_ => ?_)
        · show Below WX.heap.size WX _
          exact hS.trans (hb2.mono hS.size)
        clear hK K hS
        have hS : Below WX.heap.size WX _ := hS_
        clear hS_
        clear hb2
        refine doD (i := 3) (ls2 := #[true, true, true, true, false, false, false, false, false, false, false, true, false, false, false]) (by kernel_rfl) rfl (by kernel_rfl) (by kernel_rfl) (fun K hK => ?_)
        go_simp
        go_wp2_with (first | (go_at_call 25; go_loud ((with_reducible refine (H7.out _).mono ?_); rintro e wq3 ⟨rfl, hb3⟩; have hz3 := blk_below HZ.out hb3; replace HZ := Lib.hid hz3; clear hz3)))
        refine hK.out _ _ ?_ (fun hS_ => ?_)
        · show Below WX.heap.size WX _
          exact hS.trans (hb3.mono hS.size)
        clear hK K hS
        have hS : Below WX.heap.size WX _ := hS_
        clear hS_
        clear hb3
        refine doD (i := 4) (ls2 := #[true, true, true, true, true, false, false, false, false, false, false, true, false, false, false]) (by kernel_rfl) rfl (by kernel_rfl) (by kernel_rfl) (fun K hK => ?_)
        go_simp
        go_wp2_with (first | (go_at_call 25; go_loud ((with_reducible refine (H9.out _).mono ?_); rintro e wq4 ⟨rfl, hb4⟩; have hz4 := blk_below HZ.out hb4; replace HZ := Lib.hid hz4; clear hz4)))
        refine hK.out _ _ ?_ (fun hS_ => ?_)
        · show Below WX.heap.size WX _
          exact hS.trans (hb4.mono hS.size)
        clear hK K hS
        have hS : Below WX.heap.size WX _ := hS_
        clear hS_
        clear hb4
        refine doD (i := 5) (ls2 := #[true, true, true, true, true, true, false, false, false, false, false, true, false, false, false]) (by kernel_rfl) rfl (by kernel_rfl) (by kernel_rfl) (fun K hK => ?_)
        go_simp
        refine hK.out _ _ ?_ (fun hS_ => ?_)
        · show Below WX.heap.size WX _
          exact hS.alloc hS.size _
        clear hK K hS
        have hS : Below WX.heap.size WX _ := hS_
        clear hS_
        have HC := Lib.hid (recs_C (w := wq4.alloc (.cells #[.int .i64 1, .int .i64 3, .string ⟨#[10]⟩, .int .i64 1, .int .i64 12, .string ⟨#[14]⟩, .int .i64 1, .int .i64 4, .string ⟨#[18]⟩] 50)) (g := wq4.heap.size) awL (by decide) (heap_alloc_new _ _))
        replace HZ := Lib.hid ((Below.heap_alloc wq4 (.cells #[.int .i64 1, .int .i64 3, .string ⟨#[10]⟩, .int .i64 1, .int .i64 12, .string ⟨#[14]⟩, .int .i64 1, .int .i64 4, .string ⟨#[18]⟩] 50) _ (lt_of_block HZ.out)).trans HZ.out)
        refine doD (i := 6) (ls2 := #[true, true, true, true, true, true, true, false, false, false, false, true, false, false, false]) (by kernel_rfl) rfl (by kernel_rfl) (by kernel_rfl) (fun K hK => ?_)
        go_simp
        go_wp2_with (first | (go_at_call 15; go_loud ((with_reducible refine (HRUN.out _ _ _ _ HNZ.out ?hB).mono ?_); (case hB => exact HC.out); rintro e wr ⟨v6, vo, rfl, hR6, hRo, hb6⟩; obtain ⟨A6, c6, rfl, hc6, _⟩ := Kd.R_reads hR6; obtain ⟨Ao, co, rfl, hco, _⟩ := Kd.R_reads hRo; have a4 := HA4.out; have ao := HAO.out; have hzl := lt_of_block HZ.out; have hz6 := blk_below HZ.out hb6; have HR6 := Lib.hid (R_base hRo (Nat.le_refl _) (Nat.le_refl _)); have HZL := Lib.hid hzl; have z0_ : wr.cell? ⟨_, 0, none⟩ = some (.int .i64 0) := (blk_cell hz6 0).trans rfl; have z1_ : wr.cell? ⟨_, 1, none⟩ = some (.int .i64 0) := (blk_cell hz6 1).trans rfl; have z2_ : wr.cell? ⟨_, 2, none⟩ = some (.int .i64 0) := (blk_cell hz6 2).trans rfl; have z3_ : wr.cell? ⟨_, 3, none⟩ = some (.int .i64 0) := (blk_cell hz6 3).trans rfl; have z4_ : wr.cell? ⟨_, 4, none⟩ = some (.slice none 0 0) := (blk_cell hz6 4).trans rfl; have y0_ : wr.frozen? ⟨_, 0, none⟩ = false := blk_frozen hz6 0; have y1_ : wr.frozen? ⟨_, 1, none⟩ = false := blk_frozen hz6 1; have y2_ : wr.frozen? ⟨_, 2, none⟩ = false := blk_frozen hz6 2; have y3_ : wr.frozen? ⟨_, 3, none⟩ = false := blk_frozen hz6 3; have y4_ : wr.frozen? ⟨_, 4, none⟩ = false := blk_frozen hz6 4; replace HZ := Lib.hid hz6; clear hz6 hzl; clear hR6 hRo)))
        refine hK.out _ _ ?_ (fun hS_ => ?_)
        · show Below WX.heap.size WX _
          exact hS.trans (hb6.mono hS.size)
        clear hK K hS
        have hS : Below WX.heap.size WX _ := hS_
        clear hS_
        clear hb6
        refine takeE 7 (some 6) #[true, true, true, true, true, true, true, true, false, false, false, true, false, false, false] hS ?_
        refine takeE 8 (some 14) #[true, true, true, true, true, true, true, true, true, false, false, true, false, false, false] hS ?_
        refine takeE 9 (some 15) #[true, true, true, true, true, true, true, true, true, true, false, true, false, false, false] hS ?_
        refine takeE 10 (some 16) #[true, true, true, true, true, true, true, true, true, true, true, true, false, false, false] hS ?_
        refine doD (i := 12) (ls2 := #[true, true, true, true, true, true, true, true, true, true, true, true, true, false, false]) (by kernel_rfl) rfl (by kernel_rfl) (by kernel_rfl) (fun K hK => ?_)
        go_simp
        refine hK.out _ _ ?_ (fun hS_ => ?_)
        · show Below WX.heap.size WX _
          exact put5_belowZ hS HZ.out (by have h0 := HGB.out; first | omega | (simp at h0; omega)) (.int .i64 12) (.int .i64 1) (.int .i64 0) (.int .i64 3) (.slice A6 1 c6)
        clear hK K hS
        have hS : Below WX.heap.size WX _ := hS_
        clear hS_
        refine takeE 13 (some 3) #[true, true, true, true, true, true, true, true, true, true, true, true, true, true, false] hS ?_
        refine takeE 14 (some 4) #[true, true, true, true, true, true, true, true, true, true, true, true, true, true, true] hS ?_
        refine wpAnyH_done (by kernel_rfl) ?_ _
        go_wp2
        go_meet
        case rel =>
          refine ⟨rfl, ⟨_, _, _, rfl, put5_heap HZ.out (.int .i64 12) (.int .i64 1) (.int .i64 0) (.int .i64 3) (.slice A6 1 c6)⟩, ⟨_, _, rfl, ?_⟩, (HBX.out.trans (hS.mono HBX.out.size))⟩
          rw [HP.out]
          have h6 := R_other HR6.out (fun k hk => put5_otherZ HZ.out (by have := HZL.out; omega) (.int .i64 12) (.int .i64 1) (.int .i64 0) (.int .i64 3) (.slice A6 1 c6))
          have h7 := (Kd.R_reads' h6).2.2
          rw [HAO.out] at h7
          exact h7
    · have hgbl := Lib.hid hS.size
      go_simp
      refine hK.out _ _ ?_ (fun hS_ => ?_)
      · show Below WX.heap.size WX _
        exact hS.alloc hS.size _
      clear hK K hS
      have hS : Below WX.heap.size WX _ := hS_
      clear hS_
      have HGB := hgbl
      clear hgbl
      refine doD (i := 1) (ls2 := #[true, true, false, false, false, false, false, false, false, false, false, true, false, false, false]) (by kernel_rfl) rfl (by kernel_rfl) (by kernel_rfl) (fun K hK => ?_)
      go_simp
      go_wp2_with (first | (go_at_call 16; go_loud ((with_reducible refine (H16.out _).mono ?_); rintro e wq1 ⟨vz, rfl, hRz, hb1⟩; obtain ⟨Az, cz, rfl, hcz, _⟩ := Kd.R_reads hRz; have HNZ := Lib.hid (R_nil26 hRz); have hz1 := blk_below (blk_drew (heap_alloc_new _ _)) hb1; have HZ := Lib.hid hz1; clear hz1; clear hRz hcz)))
      refine hK.out _ _ ?_ (fun hS_ => ?_)
      · show Below WX.heap.size WX _
        exact hS.trans (hb1.mono hS.size)
      clear hK K hS
      have hS : Below WX.heap.size WX _ := hS_
      clear hS_
      clear hb1
      refine doD (i := 2) (ls2 := #[true, true, true, false, false, false, false, false, false, false, false, true, false, false, false]) (by kernel_rfl) rfl (by kernel_rfl) (by kernel_rfl) (fun K hK => ?_)
      go_simp
      go_wp2_with (first | (go_at_call 25; go_loud ((with_reducible refine (H5.out _).mono ?_); rintro e wq2 ⟨rfl, hb2⟩; have hz2 := blk_below HZ.out hb2; replace HZ := Lib.hid hz2; clear hz2)))
      refine hK.out _ _ ?_ (fun hS_ => ?_)
      · show Below WX.heap.size WX _
        exact hS.trans (hb2.mono hS.size)
      clear hK K hS
      have hS : Below WX.heap.size WX _ := hS_
      clear hS_
      clear hb2
      refine doD (i := 3) (ls2 := #[true, true, true, true, false, false, false, false, false, false, false, true, false, false, false]) (by kernel_rfl) rfl (by kernel_rfl) (by kernel_rfl) (fun K hK => ?_)
      go_simp
      go_wp2_with (first | (go_at_call 25; go_loud ((with_reducible refine (H7.out _).mono ?_); rintro e wq3 ⟨rfl, hb3⟩; have hz3 := blk_below HZ.out hb3; replace HZ := Lib.hid hz3; clear hz3)))
      refine hK.out _ _ ?_ (fun hS_ => ?_)
      · show Below WX.heap.size WX _
        exact hS.trans (hb3.mono hS.size)
      clear hK K hS
      have hS : Below WX.heap.size WX _ := hS_
      clear hS_
      clear hb3
      refine doD (i := 4) (ls2 := #[true, true, true, true, true, false, false, false, false, false, false, true, false, false, false]) (by kernel_rfl) rfl (by kernel_rfl) (by kernel_rfl) (fun K hK => ?_)
      go_simp
      go_wp2_with (first | (go_at_call 25; go_loud ((with_reducible refine (H9.out _).mono ?_); rintro e wq4 ⟨rfl, hb4⟩; have hz4 := blk_below HZ.out hb4; replace HZ := Lib.hid hz4; clear hz4)))
      refine hK.out _ _ ?_ (fun hS_ => ?_)
      · show Below WX.heap.size WX _
        exact hS.trans (hb4.mono hS.size)
      clear hK K hS
      have hS : Below WX.heap.size WX _ := hS_
      clear hS_
      clear hb4
      refine doD (i := 5) (ls2 := #[true, true, true, true, true, true, false, false, false, false, false, true, false, false, false]) (by kernel_rfl) rfl (by kernel_rfl) (by kernel_rfl) (fun K hK => ?_)
      go_simp
      refine hK.out _ _ ?_ (fun hS_ => ?_)
      · show Below WX.heap.size WX _
        exact hS.alloc hS.size _
      clear hK K hS
      have hS : Below WX.heap.size WX _ := hS_
      clear hS_
      have HC := Lib.hid (recs_C (w := wq4.alloc (.cells #[.int .i64 1, .int .i64 3, .string ⟨#[10]⟩, .int .i64 1, .int .i64 12, .string ⟨#[14]⟩, .int .i64 1, .int .i64 4, .string ⟨#[18]⟩] 50)) (g := wq4.heap.size) awL (by decide) (heap_alloc_new _ _))
      replace HZ := Lib.hid ((Below.heap_alloc wq4 (.cells #[.int .i64 1, .int .i64 3, .string ⟨#[10]⟩, .int .i64 1, .int .i64 12, .string ⟨#[14]⟩, .int .i64 1, .int .i64 4, .string ⟨#[18]⟩] 50) _ (lt_of_block HZ.out)).trans HZ.out)
      refine doD (i := 6) (ls2 := #[true, true, true, true, true, true, true, false, false, false, false, true, false, false, false]) (by kernel_rfl) rfl (by kernel_rfl) (by kernel_rfl) (fun K hK => ?_)
      go_simp
      go_wp2_with (first | (go_at_call 15; go_loud ((with_reducible refine (HRUN.out _ _ _ _ HNZ.out ?hB).mono ?_); (case hB => exact HC.out); rintro e wr ⟨v6, vo, rfl, hR6, hRo, hb6⟩; obtain ⟨A6, c6, rfl, hc6, _⟩ := Kd.R_reads hR6; obtain ⟨Ao, co, rfl, hco, _⟩ := Kd.R_reads hRo; have a4 := HA4.out; have ao := HAO.out; have hzl := lt_of_block HZ.out; have hz6 := blk_below HZ.out hb6; have HR6 := Lib.hid (R_base hRo (Nat.le_refl _) (Nat.le_refl _)); have HZL := Lib.hid hzl; have z0_ : wr.cell? ⟨_, 0, none⟩ = some (.int .i64 0) := (blk_cell hz6 0).trans rfl; have z1_ : wr.cell? ⟨_, 1, none⟩ = some (.int .i64 0) := (blk_cell hz6 1).trans rfl; have z2_ : wr.cell? ⟨_, 2, none⟩ = some (.int .i64 0) := (blk_cell hz6 2).trans rfl; have z3_ : wr.cell? ⟨_, 3, none⟩ = some (.int .i64 0) := (blk_cell hz6 3).trans rfl; have z4_ : wr.cell? ⟨_, 4, none⟩ = some (.slice none 0 0) := (blk_cell hz6 4).trans rfl; have y0_ : wr.frozen? ⟨_, 0, none⟩ = false := blk_frozen hz6 0; have y1_ : wr.frozen? ⟨_, 1, none⟩ = false := blk_frozen hz6 1; have y2_ : wr.frozen? ⟨_, 2, none⟩ = false := blk_frozen hz6 2; have y3_ : wr.frozen? ⟨_, 3, none⟩ = false := blk_frozen hz6 3; have y4_ : wr.frozen? ⟨_, 4, none⟩ = false := blk_frozen hz6 4; replace HZ := Lib.hid hz6; clear hz6 hzl; clear hR6 hRo)))
      refine hK.out _ _ ?_ (fun hS_ => ?_)
      · show Below WX.heap.size WX _
        exact hS.trans (hb6.mono hS.size)
      clear hK K hS
      have hS : Below WX.heap.size WX _ := hS_
      clear hS_
      clear hb6
      refine takeE 7 (some 6) #[true, true, true, true, true, true, true, true, false, false, false, true, false, false, false] hS ?_
      refine takeE 8 (some 14) #[true, true, true, true, true, true, true, true, true, false, false, true, false, false, false] hS ?_
      refine takeE 9 (some 15) #[true, true, true, true, true, true, true, true, true, true, false, true, false, false, false] hS ?_
      refine takeE 10 (some 16) #[true, true, true, true, true, true, true, true, true, true, true, true, false, false, false] hS ?_
      refine doD (i := 12) (ls2 := #[true, true, true, true, true, true, true, true, true, true, true, true, true, false, false]) (by kernel_rfl) rfl (by kernel_rfl) (by kernel_rfl) (fun K hK => ?_)
      go_simp
      refine hK.out _ _ ?_ (fun hS_ => ?_)
      · show Below WX.heap.size WX _
        exact put5_belowZ hS HZ.out (by have h0 := HGB.out; first | omega | (simp at h0; omega)) (.int .i64 12) (.int .i64 1) (.int .i64 0) (.int .i64 3) (.slice A6 1 c6)
      clear hK K hS
      have hS : Below WX.heap.size WX _ := hS_
      clear hS_
      refine takeE 13 (some 3) #[true, true, true, true, true, true, true, true, true, true, true, true, true, true, false] hS ?_
      refine takeE 14 (some 4) #[true, true, true, true, true, true, true, true, true, true, true, true, true, true, true] hS ?_
      refine wpAnyH_done (by kernel_rfl) ?_ _
      go_wp2
      go_meet
      case rel =>
        refine ⟨rfl, ⟨_, _, _, rfl, put5_heap HZ.out (.int .i64 12) (.int .i64 1) (.int .i64 0) (.int .i64 3) (.slice A6 1 c6)⟩, ⟨_, _, rfl, ?_⟩, (HBX.out.trans (hS.mono HBX.out.size))⟩
        rw [HP.out]
        have h6 := R_other HR6.out (fun k hk => put5_otherZ HZ.out (by have := HZL.out; omega) (.int .i64 12) (.int .i64 1) (.int .i64 0) (.int .i64 3) (.slice A6 1 c6))
        have h7 := (Kd.R_reads' h6).2.2
        rw [HAO.out] at h7
        exact h7
  case rest =>
    obtain ⟨e0, ⟨gb, A6, c6, rfl, hbox⟩, ⟨Ao, co, rfl, hro⟩, hbl⟩ := hcut
    subst e0
    obtain ⟨ad, rfl, x0, x1, x2, x3, x4, x5, x6, x7, x8, x9, x10, x11⟩ := at_T46 hro 0 (by omega) (by omega)
    rw [awO0] at x0
    rw [awO1] at x1
    rw [awO2] at x3
    have b0 : wc.cell? ⟨gb, 0, none⟩ = some (.int .i64 12) := (blk_cell hbox 0).trans rfl
    have b1 : wc.cell? ⟨gb, 1, none⟩ = some (.int .i64 1) := (blk_cell hbox 1).trans rfl
    have b3 : wc.cell? ⟨gb, 3, none⟩ = some (.int .i64 3) := (blk_cell hbox 3).trans rfl
    have b4 : wc.cell? ⟨gb, 4, none⟩ = some (.slice A6 1 c6) := (blk_cell hbox 4).trans rfl
    have ad0 : ad.add 0 = ad := by unfold Addr.add; simp
    simp only [Int.toNat_zero, Nat.zero_mul, ad0] at x0 x1 x3
    clear x2 x4 x5 x6 x7 x8 x9 x10 x11 hbox HRUN H16 H5 H7 H9 HP HA4 HAO HGX HBX HWX hro
    go_wp2
    go_ret
    exact ⟨rfl, hbl⟩
end Go.Proofs.Ytgipepjpkmlmaaa.P
