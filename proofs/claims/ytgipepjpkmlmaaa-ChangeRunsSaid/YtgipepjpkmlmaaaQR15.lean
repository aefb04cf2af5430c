import Derived.Test.YtgipepjpkmlmaaaQR2
import Derived.Test.YtgipepjpkmlmaaaQR3
import Derived.Test.YtgipepjpkmlmaaaQR4
import Derived.Test.YtgipepjpkmlmaaaQR5
import Derived.Test.YtgipepjpkmlmaaaQR6
import Derived.Test.YtgipepjpkmlmaaaQR7
import Derived.Test.YtgipepjpkmlmaaaQR8
import Derived.Test.YtgipepjpkmlmaaaQR11
import Derived.Test.YtgipepjpkmlmaaaQR13
namespace Go.Proofs.Ytgipepjpkmlmaaa.P
open Go.RowKit Go.Proofs.YtgipepjpkmlmaaaW.PrintWords Go.Proofs.YtgipepjpkmlmaaaW.PrintLast Go.Proofs.YtgipepjpkmlmaaaW.PrintMore
set_option linter.unusedVariables false
set_option linter.unusedSimpArgs false
set_option maxHeartbeats 16000000 in
set_option maxRecDepth 100000 in
theorem feedR_calls (g : S23) (s : S28) (r : S50) (hi : InvR g s) (hn3 : s.f3 < 1000000) (A : Option Addr) (c : Nat) (w : World) (hr : k46.C w A s.f4.length s.f4) (hc : s.f4.length ≤ c) :
    Calls Try.prog 43 #[gridV g, .agg #[.int .i64 s.f0, .int .i64 s.f1, .int .i64 s.f2, .int .i64 s.f3, .slice A s.f4.length c], .agg #[.int .i64 r.f0, .int .i64 r.f1, .string r.f2]] w (FedR w A c s.f4 (feedP g s r)) := by
  obtain ⟨FP, hFP⟩ : ∃ p, feedP g s r = p := ⟨_, rfl⟩
  rw [hFP]
  have HFPb := Lib.hid hFP
  clear hFP
  obtain ⟨W4, hW4⟩ : ∃ W, W = ((((w.alloc (.cells #[.int .i64 g.f0, .int .i64 g.f1, .int .i64 g.f2] 23)).alloc (.cells #[.int .i64 s.f0, .int .i64 s.f1, .int .i64 s.f2, .int .i64 s.f3, .slice A s.f4.length c] 28)).alloc (.cells #[.int .i64 r.f0, .int .i64 r.f1, .string r.f2] 50)).alloc (.cells #[.int .i64 0, .int .i64 0, .int .i64 0, .int .i64 0, .slice none 0 0] 28)) := ⟨_, rfl⟩
  have hgg : W4.heap[w.heap.size]? = some (.cells #[.int .i64 g.f0, .int .i64 g.f1, .int .i64 g.f2] 23 (0, 0)) := by
    rw [hW4, Below.heap_alloc _ _ _ (by simp; omega), Below.heap_alloc _ _ _ (by simp; omega), Below.heap_alloc _ _ _ (by simp)]
    exact heap_alloc_new _ _
  have hgs : W4.heap[w.heap.size + 1]? = some (.cells #[.int .i64 s.f0, .int .i64 s.f1, .int .i64 s.f2, .int .i64 s.f3, .slice A s.f4.length c] 28 (0, 0)) := by
    rw [hW4, Below.heap_alloc _ _ _ (by simp), Below.heap_alloc _ _ _ (by simp)]
    have := heap_alloc_new (w.alloc (.cells #[.int .i64 g.f0, .int .i64 g.f1, .int .i64 g.f2] 23)) (.cells #[.int .i64 s.f0, .int .i64 s.f1, .int .i64 s.f2, .int .i64 s.f3, .slice A s.f4.length c] 28)
    simpa using this
  have hgr : W4.heap[w.heap.size + 2]? = some (.cells #[.int .i64 r.f0, .int .i64 r.f1, .string r.f2] 50 (0, 0)) := by
    rw [hW4, Below.heap_alloc _ _ _ (by simp)]
    have := heap_alloc_new ((w.alloc (.cells #[.int .i64 g.f0, .int .i64 g.f1, .int .i64 g.f2] 23)).alloc (.cells #[.int .i64 s.f0, .int .i64 s.f1, .int .i64 s.f2, .int .i64 s.f3, .slice A s.f4.length c] 28)) (.cells #[.int .i64 r.f0, .int .i64 r.f1, .string r.f2] 50)
    simpa using this
  have hge : W4.heap[w.heap.size + 3]? = some (.cells #[.int .i64 0, .int .i64 0, .int .i64 0, .int .i64 0, .slice none 0 0] 28 (0, 0)) := by
    rw [hW4]
    have := heap_alloc_new (((w.alloc (.cells #[.int .i64 g.f0, .int .i64 g.f1, .int .i64 g.f2] 23)).alloc (.cells #[.int .i64 s.f0, .int .i64 s.f1, .int .i64 s.f2, .int .i64 s.f3, .slice A s.f4.length c] 28)).alloc (.cells #[.int .i64 r.f0, .int .i64 r.f1, .string r.f2] 50)) (.cells #[.int .i64 0, .int .i64 0, .int .i64 0, .int .i64 0, .slice none 0 0] 28)
    simpa using this
  have hb4 : Below w.heap.size w W4 := by
    rw [hW4]
    exact ((((Below.refl _ _).alloc (Nat.le_refl _) _).alloc (by simp) _).alloc (by simp; omega) _).alloc (by simp; omega) _
  have hF4 : FR w W4 g r s.f0 s.f1 s.f2 s.f3 (.slice A s.f4.length c) := ⟨hgg, hgs, hgr, hge, hb4⟩
  have hmay := mayR_calls g s hi.inv A c W4 (Kd.C_below hr hb4) hc
  have hlw : LW 4 w W4 A c s.f4 (.slice A s.f4.length c) s.f4 := ⟨A, c, rfl, hc, .inl ⟨rfl, rfl, rfl, hr, hb4⟩⟩
  obtain ⟨bR, hbR⟩ : ∃ b, ([r.f0, r.f1].all inB && !decide (r.f0 > 1048576)) = b := ⟨_, rfl⟩
  obtain ⟨k1, hk1⟩ : ∃ b, inB r.f0 = b := ⟨_, rfl⟩
  obtain ⟨k2, hk2⟩ : ∃ b, decide (1048576 < r.f0) = b := ⟨_, rfl⟩
  obtain ⟨k3, hk3⟩ : ∃ b, inB r.f1 = b := ⟨_, rfl⟩
  have hk : (k1 && k3 && !k2) = bR := by
    rw [← hbR, ← hk1, ← hk2, ← hk3]
    simp [List.all_cons]
  have H66a : ∀ w, Calls Try.prog 66 #[.int .i64 r.f0] w fun e w' => e = .returned (.bool k1) ∧ w' = w := fun w => by rw [← hk1]; exact inR_calls _ _
  have H66b : ∀ w, Calls Try.prog 66 #[.int .i64 r.f1] w fun e w' => e = .returned (.bool k3) ∧ w' = w := fun w => by rw [← hk3]; exact inR_calls _ _
  have HF4 := Lib.hid hF4
  have HMAY := Lib.hid hmay
  have HLW := Lib.hid hlw
  have HI := Lib.hid hi
  have HW4 := Lib.hid hW4
  have HBR := Lib.hid hbR
  have HK := Lib.hid hk
  have HA := Lib.hid H66a
  have HB := Lib.hid H66b
  have HK1 := Lib.hid hk1
  have HK2 := Lib.hid hk2
  have HK3 := Lib.hid hk3
  clear hW4 hgg hgs hgr hge hb4 hF4 hmay hlw hbR hk hk1 hk3 H66a H66b hr hi
  go_enter Try.func43, Try.ntmps43
  go_upto_region 1 with fail
  rw [← HW4.out]
  go_cut [39] from 19 to 38 (fun v39 wc => v39 = .bool (!bR) ∧ Below W4.heap.size W4 wc)
  case first =>
    have hF := HF4.out
    have q0 : W4.cell? ⟨w.heap.size, 0, none⟩ = some (.int .i64 g.f0) := (blk_cell hF.gg 0).trans rfl
    have q1 : W4.cell? ⟨w.heap.size, 1, none⟩ = some (.int .i64 g.f1) := (blk_cell hF.gg 1).trans rfl
    have q2 : W4.cell? ⟨w.heap.size, 2, none⟩ = some (.int .i64 g.f2) := (blk_cell hF.gg 2).trans rfl
    obtain ⟨s0, s1, s2, s3, s4⟩ := cell5s hF.gs
    clear hF
    have hk := HK.out
    clear HK2
    cases k1 with
    | false =>
      subst hk
      go_wp2_with (first | (go_at_call 35; go_loud ((with_reducible refine HMAY.out.mono ?_); rintro e w1 ⟨rfl, hb1⟩; have hr1 := (HF4.out.below hb1).gr; have p0 : w1.cell? ⟨w.heap.size + 2, 0, none⟩ = some (.int .i64 r.f0) := (blk_cell hr1 0).trans rfl; have p1 : w1.cell? ⟨w.heap.size + 2, 1, none⟩ = some (.int .i64 r.f1) := (blk_cell hr1 1).trans rfl; have HB1 := Lib.hid hb1; clear hr1 hb1)) | (go_at_call 66; go_loud ((with_reducible refine (HA.out _).mono ?_); rintro e w' ⟨rfl, rfl⟩)) | (go_at_call 66; go_loud ((with_reducible refine (HB.out _).mono ?_); rintro e w' ⟨rfl, rfl⟩)))
      go_meet
      case rel => exact ⟨rfl, HB1.out⟩
    | true =>
      cases k2 with
      | true =>
        rw [Bool.not_true, Bool.and_false] at hk
        subst hk
        go_wp2_with (first | (go_at_call 35; go_loud ((with_reducible refine HMAY.out.mono ?_); rintro e w1 ⟨rfl, hb1⟩; have hr1 := (HF4.out.below hb1).gr; have p0 : w1.cell? ⟨w.heap.size + 2, 0, none⟩ = some (.int .i64 r.f0) := (blk_cell hr1 0).trans rfl; have p1 : w1.cell? ⟨w.heap.size + 2, 1, none⟩ = some (.int .i64 r.f1) := (blk_cell hr1 1).trans rfl; have HB1 := Lib.hid hb1; clear hr1 hb1)) | (go_at_call 66; go_loud ((with_reducible refine (HA.out _).mono ?_); rintro e w' ⟨rfl, rfl⟩)) | (go_at_call 66; go_loud ((with_reducible refine (HB.out _).mono ?_); rintro e w' ⟨rfl, rfl⟩)))
        go_meet
        case rel => exact ⟨rfl, HB1.out⟩
      | false =>
        rw [Bool.true_and, Bool.not_false, Bool.and_true] at hk
        subst hk
        go_wp2_with (first | (go_at_call 35; go_loud ((with_reducible refine HMAY.out.mono ?_); rintro e w1 ⟨rfl, hb1⟩; have hr1 := (HF4.out.below hb1).gr; have p0 : w1.cell? ⟨w.heap.size + 2, 0, none⟩ = some (.int .i64 r.f0) := (blk_cell hr1 0).trans rfl; have p1 : w1.cell? ⟨w.heap.size + 2, 1, none⟩ = some (.int .i64 r.f1) := (blk_cell hr1 1).trans rfl; have HB1 := Lib.hid hb1; clear hr1 hb1)) | (go_at_call 66; go_loud ((with_reducible refine (HA.out _).mono ?_); rintro e w' ⟨rfl, rfl⟩)) | (go_at_call 66; go_loud ((with_reducible refine (HB.out _).mono ?_); rintro e w' ⟨rfl, rfl⟩)))
        go_meet
        case rel => exact ⟨rfl, HB1.out⟩
  case rest =>
    obtain ⟨rfl, hbw⟩ := hcut
    have hF := HF4.out.below hbw
    have hL := HLW.out.below hbw HF4.out.bl.size
    have HF := Lib.hid hF
    have HL := Lib.hid hL
    have hchk := inv_check HI.out.inv
    cases bR with
    | false =>
      have hfp := HFPb.out
      rw [feedP, hchk, HBR.out, if_neg (by decide)] at hfp
      replace hfp := Lib.hid hfp
      obtain ⟨s0, s1, s2, s3, s4⟩ := cell5s hF.ge
      have f0 := blk_frozen hF.ge 0
      have f1 := blk_frozen hF.ge 1
      have f2 := blk_frozen hF.ge 2
      have f3 := blk_frozen hF.ge 3
      have f4 := blk_frozen hF.ge 4
      clear hF hL hbw hchk
      go_wp2
      have hp := hfp.out
      subst hp
      refine bodyPost_ret (results_ctt rfl _ _ (w.heap.size + 1 + 1 + 1) 28 #[.int .i64 0, .int .i64 0, .int .i64 0, .int .i64 0, .slice none 0 0] (0, 0) _ rfl (put5_heap (w := wc) (g := w.heap.size + 1 + 1 + 1) HF.out.ge (.int .i64 0) (.int .i64 0) (.int .i64 0) (.int .i64 0) (.slice none 0 0)) Try.underlying28 rfl (by kernel_rfl)) rfl ?_
      exact ⟨_, _, rfl, LW.nil _ _ _ _ _ _, Kd.R_nil _ _ _ _ _, put5_below (g := w.heap.size + 1 + 1 + 1) HF.out.bl (by omega) _ _ _ _ _⟩
    | true =>
      have hn0 : 0 ≤ s.f3 := HI.out.inv.n0
      have dN : (s.f3 == 1099511627776) = false := beq_eq_false_iff_ne.2 (by omega)
      have hfp := HFPb.out
      rw [feedP, hchk, HBR.out, if_pos (by decide), if_neg (by omega)] at hfp
      obtain ⟨n2, hn2⟩ : ∃ x, wrap64 (s.f3 + 1) = x := ⟨_, rfl⟩
      rw [hn2] at hfp
      obtain ⟨s0, s1, s2, s3, s4⟩ := cell5s hF.gs
      have f3 := blk_frozen hF.gs 3
      have HFPc := Lib.hid hfp
      have HN3 := Lib.hid hn3
      clear hF hL hbw hchk hfp hn0 hn3
      go_upto_region 6 with fail
      obtain ⟨W5, hW5⟩ : ∃ W, W = wc.setCell ⟨w.heap.size + 1, 3, none⟩ (.int .i64 n2) := ⟨_, rfl⟩
      have hF5 : FR w W5 g r s.f0 s.f1 s.f2 n2 (.slice A s.f4.length c) := by rw [hW5]; exact HF.out.put 3 rfl
      have hL5 : LW 4 w W5 A c s.f4 (.slice A s.f4.length c) s.f4 := by rw [hW5]; exact HL.out.put (by omega) 3 _
      rw [← hW5]
      clear hW5 s0 s1 s2 s3 s4 f3 hn2
      obtain ⟨p0, p1, p2⟩ := cell3s hF5.gr
      obtain ⟨kv, rv, hv, hv2⟩ := value_ref2 r.f0 r.f1 r.f2
      have hvr := valP_range r.f2
      obtain ⟨ok, hok⟩ : ∃ b, (valP r.f2).2 = b := ⟨_, rfl⟩
      obtain ⟨vl, hvl⟩ : ∃ b, (valP r.f2).1 = b := ⟨_, rfl⟩
      have hfp := HFPc.out
      rw [hok, hvl] at hfp
      rw [hok] at hv hv2 hvr
      rw [hvl] at hv2 hvr
      have HFPd := Lib.hid hfp
      have HV := Lib.hid (fun w => headgateref16_Value.calls kv r.f0 r.f1 r.f2 rv ok w hv)
      have HV2 := Lib.hid hv2
      have HVR := Lib.hid hvr
      have HF5 := Lib.hid hF5
      have HL5 := Lib.hid hL5
      clear hfp hv hv2 hvr hok hvl hF5 hL5
      go_upto_region 7 with (first | (go_at_call 23; go_loud ((with_reducible refine (HV.out _).mono ?_); rintro e w6 ⟨rfl, hb6⟩; have HB6 := Lib.hid hb6; clear hb6)))
      clear p0 p1 p2
      have hF6 := HF5.out.below HB6.out
      have hL6 := HL5.out.below HB6.out HF5.out.bl.size
      have HF6 := Lib.hid hF6
      have HL6 := Lib.hid hL6
      cases ok with
      | false =>
        have hfp := HFPd.out
        rw [if_neg (by decide)] at hfp
        obtain ⟨ba, hba⟩ : ∃ x, wrap64 (s.f2 + 1) = x := ⟨_, rfl⟩
        rw [hba] at hfp
        have HFPe := Lib.hid hfp
        obtain ⟨s0, s1, s2, s3, s4⟩ := cell5s hF6.gs
        have f2 := blk_frozen hF6.gs 2
        clear hF6 hL6 hfp
        go_upto_region 9 with fail
        obtain ⟨W7, hW7⟩ : ∃ W, W = w6.setCell ⟨w.heap.size + 1, 2, none⟩ (.int .i64 ba) := ⟨_, rfl⟩
        have hF7 : FR w W7 g r s.f0 s.f1 ba n2 (.slice A s.f4.length c) := by rw [hW7]; exact HF6.out.put 2 rfl
        have hL7 : LW 4 w W7 A c s.f4 (.slice A s.f4.length c) s.f4 := by rw [hW7]; exact HL6.out.put (by omega) 2 _
        rw [← hW7]
        clear hW7 s0 s1 s2 s3 s4 f2 hba
        obtain ⟨s0, s1, s2, s3, s4⟩ := cell5s hF7.gs
        obtain ⟨r0, r1, r2, r3, r4⟩ := cell5s hF7.ge
        have f0 := blk_frozen hF7.ge 0
        have f1 := blk_frozen hF7.ge 1
        have f2 := blk_frozen hF7.ge 2
        have f3 := blk_frozen hF7.ge 3
        have f4 := blk_frozen hF7.ge 4
        have HF7 := Lib.hid hF7
        have HL7 := Lib.hid hL7
        clear hF7 hL7
        go_wp2
        have hp := HFPe.out
        subst hp
        refine bodyPost_ret (results_ctt rfl _ _ (w.heap.size + 1 + 1 + 1) 28 #[.int .i64 s.f0, .int .i64 s.f1, .int .i64 ba, .int .i64 n2, .slice A s.f4.length c] (0, 0) _ rfl (put5_heap (w := W7) (g := w.heap.size + 1 + 1 + 1) HF7.out.ge (.int .i64 s.f0) (.int .i64 s.f1) (.int .i64 ba) (.int .i64 n2) (.slice A s.f4.length c)) Try.underlying28 rfl (by kernel_rfl)) rfl ?_
        exact ⟨_, _, rfl, HL7.out.put5 _ (by omega) (by omega) _ _ _ _ _, Kd.R_nil _ _ _ _ _, put5_below (g := w.heap.size + 1 + 1 + 1) HF7.out.bl (by omega) _ _ _ _ _⟩
      | true =>
        have hrv := HV2.out rfl
        subst hrv
        obtain ⟨hv0, hv1⟩ := HVR.out rfl
        have hfp := HFPd.out
        rw [if_pos rfl] at hfp
        have hb := HBR.out
        simp only [List.all_cons, List.all_nil, Bool.and_true, Bool.and_eq_true, Bool.not_eq_true', decide_eq_false_iff_not] at hb
        obtain ⟨⟨hb1, hb2⟩, hb3⟩ := hb
        unfold inB at hb2
        simp only [Bool.and_eq_true, decide_eq_true_eq] at hb2
        obtain ⟨ht0, ht1⟩ := hb2
        have hgr := HI.out.inv.grid
        have hst := fun w => startsRef_calls hgr ht0 ht1 w
        have hsl := startsP_length g r.f1 hgr
        obtain ⟨S, hS⟩ : ∃ S, startsP g r.f1 = S := ⟨_, rfl⟩
        rw [hS] at hst hsl hfp
        have hmk : -1 ≤ s.f0 ∧ s.f0 ≤ 1099511627776 := by
          have := HI.out.inv.mark
          omega
        have HFPe := Lib.hid hfp
        have HST := Lib.hid hst
        have HGR := Lib.hid hgr
        have HTM := Lib.hid (show 0 ≤ r.f1 ∧ r.f1 ≤ 1099511627776 from ⟨ht0, ht1⟩)
        have HMK := Lib.hid hmk
        have HVV := Lib.hid (show -9223372036854775808 ≤ rv ∧ rv ≤ 9223372036854775807 from ⟨hv0, hv1⟩)
        obtain ⟨q0, q1, q2⟩ := cell3s hF6.gg
        obtain ⟨p0, p1, p2⟩ := cell3s hF6.gr
        clear hfp hst hgr hmk hv0 hv1 hb1 hb3 ht0 ht1 hS hF6 hL6
        go_upto_region 12 with (first | (go_at_call 27; go_loud ((with_reducible refine (HST.out _).mono ?_); rintro e ws ⟨vs, rfl, hRs, hbs⟩; obtain ⟨As, cs, rfl, hcs, hCs⟩ := Kd.R_reads hRs; obtain ⟨s0, s1, s2, s3, s4⟩ := cell5s (HF6.out.below hbs).gs; have HCS := Lib.hid hCs; have HBS := Lib.hid hbs; clear hRs hCs hbs)))
        clear q0 q1 q2 p0 p1 p2 s0 s1 s2 s3 s4
        have HF7 := Lib.hid (HF6.out.below HBS.out)
        have HL7 := Lib.hid (HL6.out.below HBS.out HF6.out.bl.size)
        obtain ⟨st, hst⟩ : ∃ x, keepI g s.f0 S = x := ⟨_, rfl⟩
        have hstl : st.length ≤ 8 := by
          rw [← hst]
          exact Nat.le_trans (List.length_filter_le _ _) hsl
        have hfp := HFPe.out
        simp only [hst] at hfp
        have HFPf := Lib.hid hfp
        have HSTE := Lib.hid hst
        have HSRT := Lib.hid HI.out.inv.ord
        have hl64 : s.f4.length ≤ 64 := HI.out.inv.len
        clear hfp hst
        go_upto_block 0 with fail
        go_cut [13, 14, 15] from 70 to 95 (fun v13 v14 v15 wd => v14 = .int .i64 (st.length : Int) ∧ LW 4 w wd A c s.f4 v13 (takeN r.f0 rv st s.f4) ∧ Below ws.heap.size ws wd)
        case first =>
          go_wp2
          go_loopg [13, 14, 15] S.length (fun kq v13 v14 v15 WX => ∃ (i : Nat), v15 = .int .i64 (i : Int) ∧ i ≤ S.length ∧ S.length - i ≤ kq ∧ v14 = .int .i64 ((keepI g s.f0 (S.take i)).length : Int) ∧ LW 4 w WX A c s.f4 v13 (takeN r.f0 rv (keepI g s.f0 (S.take i)) s.f4) ∧ Below ws.heap.size ws WX)
          case atStart => exact ⟨0, rfl, Nat.zero_le _, by omega, rfl, HL7.out, Below.refl _ _⟩
          case round =>
            obtain ⟨i, rfl, hil, hik, rfl, hlw, hbr⟩ := hrel
            obtain ⟨WX, hWX⟩ : ∃ W, W = wr := ⟨_, rfl⟩
            subst hWX
            have HBR2 := Lib.hid hbr
            by_cases hlt : i < S.length
            rotate_left
            · have d1 : decide ((i : Int) < (S.length : Int)) = false := decide_eq_false (by omega)
              rw [List.take_of_length_le (by omega), HSTE.out] at hlw
              have hkk : (keepI g s.f0 (S.take i)).length = st.length := by rw [List.take_of_length_le (by omega), HSTE.out]
              have HLW2 := Lib.hid hlw
              rw [hkk]
              clear hlw hbr hkk
              go_wp2
              go_meet
              case rel => exact ⟨rfl, HLW2.out, HBR2.out⟩
            have d1 : decide ((i : Int) < (S.length : Int)) = true := decide_eq_true (by omega)
            have hbi : (0 : Int) ≤ (i : Int) ∧ (i : Int) < (S.length : Int) := by omega
            have hwi : IntKind.i64.wrap ((i : Int) + 1) = (i : Int) + 1 := by rw [IntKind.wrap_i64]; omega
            obtain ⟨ad, had, hx⟩ := Kd.at_int (Kd.C_below HCS.out hbr) (i : Int) (by omega) (by omega)
            cases had
            rw [Int.toNat_natCast] at hx
            have hsn := keepI_snoc g s.f0 S i hlt
            obtain ⟨x, hx2⟩ : ∃ x, rd S (i : Int) = x := ⟨_, rfl⟩
            rw [hx2] at hx hsn
            have hcl := fun w => closedRef_calls g HGR.out x s.f0 HMK.out.1 HMK.out.2 w
            obtain ⟨cb, hcb⟩ : ∃ b, closedP g x s.f0 = b := ⟨_, rfl⟩
            rw [hcb] at hcl hsn
            have hF := HF7.out.below hbr
            obtain ⟨sq, hsq⟩ : ∃ q, keepI g s.f0 (S.take i) = q := ⟨_, rfl⟩
            rw [hsq] at hsn hlw
            rw [hsq]
            have hsql : sq.length ≤ 8 := by
              rw [← hsq]
              refine Nat.le_trans (List.length_filter_le _ _) ?_
              rw [List.length_take]
              omega
            obtain ⟨LL, hLL⟩ : ∃ q, takeN r.f0 rv sq s.f4 = q := ⟨_, rfl⟩
            rw [hLL] at hlw
            have hLs : srt LL := by rw [← hLL]; exact takeN_srt _ _ _ _ HSRT.out
            have hLa : ∀ c ∈ LL, aggI c.f2 := by rw [← hLL]; exact takeN_aggI _ _ _ _ HSRT.out HI.out.agg
            have hLl : LL.length ≤ 1000 := by
              rw [← hLL]
              have := takeN_length r.f0 rv sq s.f4
              omega
            obtain ⟨A3, c3, rfl, hc3, hC3⟩ := hlw.reads
            have hput : ∀ W, Below WX.heap.size WX W → Calls Try.prog 76 #[.slice A3 LL.length c3, .int .i64 r.f0, .int .i64 x, .int .i64 rv] W fun e w' => ∃ u, e = .returned u ∧ Kd.R k46 46 w' W.heap.size (fun _ => True) u (takeS r.f0 rv x LL) ∧ Below W.heap.size W w' :=
              fun W h => putR_calls LL hLs hLl r.f0 x rv hLa HVV.out.1 HVV.out.2 A3 c3 W (Kd.C_below hC3 h) hc3
            have HPUT0 := Lib.hid hput
            have HX1 := Lib.hid hx
            have HG0 := Lib.hid (show WX.cell? ⟨w.heap.size, 0, none⟩ = some (.int .i64 g.f0) from (blk_cell hF.gg 0).trans rfl)
            have HG1 := Lib.hid (show WX.cell? ⟨w.heap.size, 1, none⟩ = some (.int .i64 g.f1) from (blk_cell hF.gg 1).trans rfl)
            have HG2 := Lib.hid (show WX.cell? ⟨w.heap.size, 2, none⟩ = some (.int .i64 g.f2) from (blk_cell hF.gg 2).trans rfl)
            have HP0 := Lib.hid (show WX.cell? ⟨w.heap.size + 1, 0, none⟩ = some (.int .i64 s.f0) from (blk_cell hF.gs 0).trans rfl)
            have HK00 := Lib.hid (show WX.cell? ⟨w.heap.size + 2, 0, none⟩ = some (.int .i64 r.f0) from (blk_cell hF.gr 0).trans rfl)
            have HSZX := Lib.hid hF.size
            have HCL := Lib.hid hcl
            have HSN := Lib.hid hsn
            have HLW2 := Lib.hid hlw
            have HLL := Lib.hid hLL
            cases gk with
            | zero => omega
            | succ gk =>
            clear hcl hbr hx hx2 hcb hsn hF hlw hC3 hput hLs hLa hLL hsq
            go_wp2
            refine wp_region_held_drew (S := fun w_ => Below WX.heap.size WX w_) (by kernel_rfl) (below_drew (Below.refl _ _)) (fun hS_ => ?_)
            have hS : Below WX.heap.size WX _ := hS_
            clear hS_
            change wpAnyH _ _ _ _ _ 9 #[false, false, false, false, false, false, false, false, false] _ _
            refine takeE 0 (some 76) #[true, false, false, false, false, false, false, false, false] hS ?_ (hy := fun w_ hS_ => by (replace hS_ : Below WX.heap.size WX w_ := hS_); have a0_ := below_cell hS_ HG0.out; have a1_ := below_cell hS_ HG1.out; have a2_ := below_cell hS_ HG2.out; go_simp <;> with_reducible rfl)
            refine takeE 1 (some 77) #[true, true, false, false, false, false, false, false, false] hS ?_
            refine takeE 2 (some 78) #[true, true, true, false, false, false, false, false, false] hS ?_
            refine takeE 3 (some 79) #[true, true, true, true, false, false, false, false, false] hS ?_
            refine takeE 4 (some 80) #[true, true, true, true, true, false, false, false, false] hS ?_ (hy := fun w_ hS_ => by (replace hS_ : Below WX.heap.size WX w_ := hS_); have a3_ := below_cell hS_ HX1.out; go_simp <;> with_reducible rfl)
            refine takeE 5 (some 81) #[true, true, true, true, true, true, false, false, false] hS ?_
            refine takeE 6 (some 82) #[true, true, true, true, true, true, true, false, false] hS ?_ (hy := fun w_ hS_ => by (replace hS_ : Below WX.heap.size WX w_ := hS_); have a4_ := below_cell hS_ HP0.out; go_simp <;> with_reducible rfl)
            refine doD (i := 7) (ls2 := #[true, true, true, true, true, true, true, true, false]) (by kernel_rfl) rfl (by kernel_rfl) (by kernel_rfl) (fun K hK => ?_)
            go_simp
            go_wp2_with (first | (go_at_call 22; go_loud ((with_reducible refine (HCL.out _).mono ?_); rintro e w3 ⟨rfl, hb3⟩)))
            refine hK.out _ _ ?_ (fun hS_ => ?_)
            · show Below WX.heap.size WX _
              exact hS.trans (hb3.mono hS.size)
            clear hK K hS hb3
            have hS : Below WX.heap.size WX _ := hS_
            clear hS_
            refine takeE 8 (some 84) #[true, true, true, true, true, true, true, true, true] hS ?_
            refine wpAnyH_done (by kernel_rfl) ?_ _
            try go_simp
            have HS3 := Lib.hid hS
            clear hS
            cases cb with
            | true =>
              go_wp2
              go_roundg gk
              case measure => omega
              case rel =>
                have hsn := HSN.out
                simp only [if_true, List.append_nil] at hsn
                refine ⟨i + 1, by first | rfl | (congr 1), by omega, by omega, by rw [hsn], ?_, HBR2.out.trans (HS3.out.mono HBR2.out.size)⟩
                rw [hsn, HLL.out]
                exact HLW2.out.below HS3.out (by have := HSZX.out; omega)
            | false =>
              have hwn : IntKind.i64.wrap ((sq.length : Int) + 1) = (sq.length : Int) + 1 := by rw [IntKind.wrap_i64]; omega
              go_upto_region 17 with fail
              have HB3 := Lib.hid (HBR2.out.trans (HS3.out.mono HBR2.out.size))
              have HX1b0 := below_cell HS3.out HX1.out
              have HK0b := below_cell HS3.out HK00.out
              have hput2 : ∀ W, Below w3.heap.size w3 W → Calls Try.prog 76 #[.slice A3 LL.length c3, .int .i64 r.f0, .int .i64 x, .int .i64 rv] W fun e w' => ∃ u, e = .returned u ∧ Kd.R k46 46 w' W.heap.size (fun _ => True) u (takeS r.f0 rv x LL) ∧ Below W.heap.size W w' :=
                fun W h => HPUT0.out W (HS3.out.trans (h.mono HS3.out.size))
              have HSZ3 := Lib.hid (show w.heap.size + 4 ≤ w3.heap.size from Nat.le_trans HSZX.out HS3.out.size)
              have HX1b := Lib.hid HX1b0
              have HK0 := Lib.hid HK0b
              have HPUT := Lib.hid hput2
              clear hput2 HX1b0 HK0b
              obtain ⟨WX, hWX⟩ : ∃ W, W = w3 := ⟨_, rfl⟩
              subst hWX
              refine wp_region_held_drew (S := fun w_ => Below WX.heap.size WX w_) (by kernel_rfl) (below_drew (Below.refl _ _)) (fun hS_ => ?_)
              have hS : Below WX.heap.size WX _ := hS_
              clear hS_
              change wpAnyH _ _ _ _ _ 10 #[false, false, false, false, false, false, false, false, false, false] _ _
              refine takeE 0 (some 85) #[true, false, false, false, false, false, false, false, false, false] hS ?_
              refine takeE 1 (some 86) #[true, true, false, false, false, false, false, false, false, false] hS ?_
              refine takeE 2 (some 87) #[true, true, true, false, false, false, false, false, false, false] hS ?_ (hy := fun w_ hS_ => by (replace hS_ : Below WX.heap.size WX w_ := hS_); have a0_ := below_cell hS_ HK0.out; go_simp <;> with_reducible rfl)
              refine takeE 3 (some 88) #[true, true, true, true, false, false, false, false, false, false] hS ?_
              refine takeE 4 (some 89) #[true, true, true, true, true, false, false, false, false, false] hS ?_
              refine takeE 5 (some 90) #[true, true, true, true, true, true, false, false, false, false] hS ?_
              refine takeE 6 (some 91) #[true, true, true, true, true, true, true, false, false, false] hS ?_ (hy := fun w_ hS_ => by (replace hS_ : Below WX.heap.size WX w_ := hS_); have a1_ := below_cell hS_ HX1b.out; go_simp <;> with_reducible rfl)
              refine takeE 7 (some 92) #[true, true, true, true, true, true, true, true, false, false] hS ?_
              refine doD (i := 8) (ls2 := #[true, true, true, true, true, true, true, true, true, false]) (by kernel_rfl) rfl (by kernel_rfl) (by kernel_rfl) (fun K hK => ?_)
              go_simp
              go_wp2_with (first | (go_at_call 76; go_loud ((with_reducible refine (HPUT.out _ (hS)).mono ?_); have HSW := Lib.hid hS.size; rintro e w5 ⟨u5, rfl, hR5, hb5⟩; have HR5 := Lib.hid hR5; clear hR5)))
              refine hK.out _ _ ?_ (fun hS_ => ?_)
              · show Below WX.heap.size WX _
                exact hS.trans (hb5.mono hS.size)
              clear hK K hS
              have hS : Below WX.heap.size WX _ := hS_
              clear hS_
              refine takeE 9 (some 13) #[true, true, true, true, true, true, true, true, true, true] hS ?_
              refine wpAnyH_done (by kernel_rfl) ?_ _
              try go_simp
              have HS5 := Lib.hid hS
              clear hS hb5
              go_wp2
              go_roundg gk
              case measure => omega
              case rel =>
                have hsn := HSN.out
                rw [if_neg (by decide)] at hsn
                have hR := R_base HR5.out (show w.heap.size ≤ _ from by have h1 := HSZ3.out; have h2 := HSW.out; omega) (show w.heap.size + 4 ≤ _ from by have h1 := HSZ3.out; have h2 := HSW.out; omega)
                refine ⟨i + 1, by first | rfl | (congr 1), by omega, by omega, by rw [hsn]; simp, ?_, HB3.out.trans (HS5.out.mono HB3.out.size)⟩
                rw [hsn, takeN_snoc, HLL.out]
                obtain ⟨A9, c9, rfl, hc9, _⟩ := Kd.R_reads hR
                exact ⟨A9, c9, rfl, hc9, .inr hR⟩
        case rest =>
          obtain ⟨rfl, hlw, hbw⟩ := hcut
          obtain ⟨L1, hL1⟩ : ∃ q, takeN r.f0 rv st s.f4 = q := ⟨_, rfl⟩
          rw [hL1] at hlw
          have hL1l : L1.length ≤ 1000 := by
            rw [← hL1]
            have := takeN_length r.f0 rv st s.f4
            omega
          obtain ⟨drop, hdr⟩ : ∃ b, (decide (st.length = 0) || !decide (L1.length ≤ 64)) = b := ⟨_, rfl⟩
          have hfp := HFPf.out
          simp only [hL1, hdr] at hfp
          obtain ⟨la, hla⟩ : ∃ x, (if drop = true then wrap64 (s.f1 + 1) else s.f1) = x := ⟨_, rfl⟩
          obtain ⟨l2, hl2⟩ : ∃ x, (if drop = true then s.f4 else L1) = x := ⟨_, rfl⟩
          obtain ⟨M, hM⟩ : ∃ x, mx s.f0 r.f1 = x := ⟨_, rfl⟩
          simp only [hla, hl2, hM] at hfp
          have hF8 := HF7.out.below hbw
          have hl0 := HL7.out.below hbw HF7.out.bl.size
          obtain ⟨A8, c8, rfl, hc8, hC8⟩ := hlw.reads
          have HFPg := Lib.hid hfp
          have HLA := Lib.hid hla
          have HLL2 := Lib.hid hl2
          have HM := Lib.hid hM
          have HF8 := Lib.hid hF8
          have HL8 := Lib.hid hlw
          have HL80 := Lib.hid hl0
          have HDR := Lib.hid hdr
          clear hfp hla hl2 hM hlw hl0 hL1 hdr hC8 hbw
          go_upto_region 19 with fail
          go_cut [102] from 96 to 101 (fun v102 wd => v102 = .bool drop ∧ wd = wc)
          case first =>
            have hdr := HDR.out
            by_cases c0 : st.length = 0
            · have d0 : ((st.length : Int) == 0) = true := beq_iff_eq.2 (by omega)
              have d02 : ((st.length : Int) = 0) = True := eq_true (by omega)
              rw [decide_eq_true c0, Bool.true_or] at hdr
              subst hdr
              clear c0
              go_wp2
              go_meet
              case rel => exact ⟨rfl, rfl⟩
            · have d0 : ((st.length : Int) == 0) = false := beq_eq_false_iff_ne.2 (by omega)
              have d02 : ((st.length : Int) = 0) = False := eq_false (by omega)
              rw [decide_eq_false c0, Bool.false_or] at hdr
              clear c0
              by_cases c1 : L1.length ≤ 64
              · have d1 : decide ((64 : Int) < (L1.length : Int)) = false := decide_eq_false (by omega)
                rw [decide_eq_true c1, Bool.not_true] at hdr
                subst hdr
                go_wp2
                go_meet
                case rel => exact ⟨rfl, rfl⟩
              · have d1 : decide ((64 : Int) < (L1.length : Int)) = true := decide_eq_true (by omega)
                rw [decide_eq_false c1, Bool.not_false] at hdr
                subst hdr
                go_wp2
                go_meet
                case rel => exact ⟨rfl, rfl⟩
          case rest =>
            obtain ⟨rfl, rfl⟩ := hcut
            go_upto_if 102 with fail
            go_cut [13] from 103 to 108 (fun v13 wd => FR w wd g r s.f0 la s.f2 n2 (.slice A s.f4.length c) ∧ LW 4 w wd A c s.f4 v13 l2)
            case first =>
              have hF := HF8.out
              have hla := HLA.out
              have hl2 := HLL2.out
              cases drop with
              | false =>
                simp only [Bool.false_eq_true, if_false] at hla hl2
                subst hla hl2
                clear hF
                go_wp2
                go_meet
                case rel => exact ⟨HF8.out, HL8.out⟩
              | true =>
                simp only [if_true] at hla hl2
                subst hl2
                obtain ⟨s0, s1, s2, s3, s4⟩ := cell5s hF.gs
                have f1 := blk_frozen hF.gs 1
                clear hF
                go_upto_region 21 with fail
                obtain ⟨W9, hW9⟩ : ∃ W, W = wc.setCell ⟨w.heap.size + 1, 1, none⟩ (.int .i64 la) := ⟨_, rfl⟩
                have hF9 : FR w W9 g r s.f0 la s.f2 n2 (.slice A s.f4.length c) := by rw [hW9]; exact HF8.out.put 1 rfl
                have hL9 : LW 4 w W9 A c s.f4 (.slice A s.f4.length c) s.f4 := by rw [hW9]; exact HL80.out.put (by omega) 1 _
                rw [← hW9]
                clear hW9 s0 s1 s2 s3 s4 f1 hla
                obtain ⟨s0, s1, s2, s3, s4⟩ := cell5s hF9.gs
                have HF9 := Lib.hid hF9
                have HL9 := Lib.hid hL9
                clear hF9 hL9
                go_wp2
                go_meet
                case rel => exact ⟨HF9.out, HL9.out⟩
            case rest =>
              obtain ⟨hF, hL⟩ := hcut
              obtain ⟨A10, c10, rfl, hc10, hC10⟩ := hL.reads
              have HF10 := Lib.hid hF
              have HL10 := Lib.hid hL
              obtain ⟨s0, s1, s2, s3, s4⟩ := cell5s hF.gs
              obtain ⟨p0, p1, p2⟩ := cell3s hF.gr
              clear hF hL hC10
              go_upto_if 113 with fail
              clear s0 s1 s2 s3 s4 p0 p1 p2
              obtain ⟨bt, hbt⟩ : ∃ b, decide (s.f0 < r.f1) = b := ⟨_, rfl⟩
              rw [hbt]
              have HBT := Lib.hid hbt
              clear hbt
              go_cut [13] from 114 to 116 (fun v13 wd => v13 = .slice A10 l2.length c10 ∧ FR w wd g r M la s.f2 n2 (.slice A s.f4.length c) ∧ LW 4 w wd A c s.f4 (.slice A10 l2.length c10) l2)
              case first =>
                have hF := HF10.out
                have hM := HM.out
                obtain ⟨s0, s1, s2, s3, s4⟩ := cell5s hF.gs
                obtain ⟨p0, p1, p2⟩ := cell3s hF.gr
                have f0 := blk_frozen hF.gs 0
                clear hF
                unfold mx at hM
                cases bt with
                | true =>
                  have ct := of_decide_eq_true HBT.out
                  have hM2 : r.f1 = M := by rw [← hM]; exact (if_pos ct).symm
                  subst hM2
                  clear hM ct
                  go_wp2
                  go_meet
                  case rel => exact ⟨rfl, HF10.out.put 0 rfl, HL10.out.put (by omega) 0 _⟩
                | false =>
                  have ct := of_decide_eq_false HBT.out
                  have hM2 : s.f0 = M := by rw [← hM]; exact (if_neg ct).symm
                  have HM2 := Lib.hid hM2
                  clear hM hM2 ct
                  go_wp2
                  go_meet
                  case rel => exact ⟨rfl, by rw [← HM2.out]; exact HF10.out, HL10.out⟩
              case rest =>
                obtain ⟨rfl, hF, hL⟩ := hcut
                obtain ⟨Wz, hWz⟩ : ∃ W, W = wc := ⟨_, rfl⟩
                subst hWz
                have hl2l : l2.length ≤ 1000 := by
                  rw [← HLL2.out]
                  split <;> omega
                have hMr : -1 ≤ M ∧ M ≤ 1099511627776 := by
                  have h1 := HM.out
                  have h2 := HMK.out
                  have h3 := HTM.out
                  unfold mx at h1
                  split at h1 <;> omega
                obtain ⟨A11, c11, e11, hc11, hC11⟩ := hL.reads
                injection e11 with e1 e2 e3
                subst e1 e3
                have hsz := hF.size
                have HFz := Lib.hid hF
                have HLz := Lib.hid hL
                have HCz := Lib.hid hC11
                have HMR := Lib.hid hMr
                have HSZz := Lib.hid hsz
                clear hF hL hC11 hMr hsz e2
                go_upto_region 24 with fail
                go_upto_block 2 with fail
                go_cut [16, 17, 18] from 117 to 145 (fun v16 v17 v18 wd => Kd.R k46 46 wd Wz.heap.size (fun _ => True) v16 (l2.filter (fun c => !closedP g c.f1 M)) ∧ Kd.R k46 46 wd Wz.heap.size (fun _ => True) v17 (l2.filter (fun c => closedP g c.f1 M)) ∧ Below Wz.heap.size Wz wd)
                case first =>
                  go_wp2
                  go_loopg [16, 17, 18] l2.length (fun kq v16 v17 v18 WX => ∃ (i : Nat), v18 = .int .i64 (i : Int) ∧ i ≤ l2.length ∧ l2.length - i ≤ kq ∧ Kd.R k46 46 WX Wz.heap.size (fun _ => True) v16 ((l2.take i).filter (fun c => !closedP g c.f1 M)) ∧ Kd.R k46 46 WX Wz.heap.size (fun _ => True) v17 ((l2.take i).filter (fun c => closedP g c.f1 M)) ∧ (∀ k, v17.ownBlock = some k → v16.ownBlock ≠ some k) ∧ Below Wz.heap.size Wz WX)
                  case atStart => exact ⟨0, rfl, Nat.zero_le _, by omega, Kd.R_nil _ _ _ _ _, Kd.R_nil _ _ _ _ _, (fun k h => by cases h), Below.refl _ _⟩
                  case round =>
                    obtain ⟨i, rfl, hil, hik, hRo, hRv, hdj, hbr⟩ := hrel
                    obtain ⟨WX, hWX⟩ : ∃ W, W = wr := ⟨_, rfl⟩
                    subst hWX
                    have HBRz := Lib.hid hbr
                    have HRO0 := Lib.hid hRo
                    have HRV0 := Lib.hid hRv
                    have HDJ := Lib.hid hdj
                    by_cases hlt : i < l2.length
                    rotate_left
                    · have d1 : decide ((i : Int) < (l2.length : Int)) = false := decide_eq_false (by omega)
                      rw [List.take_of_length_le (by omega)] at hRo hRv
                      have HRO := Lib.hid hRo
                      have HRV := Lib.hid hRv
                      clear hRo hRv hdj hbr
                      go_wp2
                      go_meet
                      case rel => exact ⟨HRO.out, HRV.out, HBRz.out⟩
                    have d1 : decide ((i : Int) < (l2.length : Int)) = true := decide_eq_true (by omega)
                    have hbi : (0 : Int) ≤ (i : Int) ∧ (i : Int) < (l2.length : Int) := by omega
                    have hwi : IntKind.i64.wrap ((i : Int) + 1) = (i : Int) + 1 := by rw [IntKind.wrap_i64]; omega
                    obtain ⟨ad, had, x0, x1, x2, x3, x4, x5, x6, x7, x8, x9, x10, x11⟩ := at_T46 (Kd.C_below HCz.out hbr) (i : Int) (by omega) (by omega)
                    cases had
                    rw [Int.toNat_natCast] at x0 x1 x2 x3 x4 x5 x6 x7 x8 x9 x10 x11
                    obtain ⟨x, hx⟩ : ∃ x, rd_T46 l2 (i : Int) = x := ⟨_, rfl⟩
                    rw [hx] at x0 x1 x2 x3 x4 x5 x6 x7 x8 x9 x10 x11
                    have HX := Lib.hid hx
                    have hcl := fun w => closedRef_calls g HGR.out x.f1 M HMR.out.1 HMR.out.2 w
                    obtain ⟨cb, hcb⟩ : ∃ b, closedP g x.f1 M = b := ⟨_, rfl⟩
                    rw [hcb] at hcl
                    have HCB := Lib.hid hcb
                    have HCL := Lib.hid hcl
                    obtain ⟨lo, hlo⟩ : ∃ q, (l2.take i).filter (fun c => !closedP g c.f1 M) = q := ⟨_, rfl⟩
                    obtain ⟨lv, hlv⟩ : ∃ q, (l2.take i).filter (fun c => closedP g c.f1 M) = q := ⟨_, rfl⟩
                    rw [hlo] at hRo
                    rw [hlv] at hRv
                    have HRO := Lib.hid hRo
                    have HRV := Lib.hid hRv
                    have HLO := Lib.hid hlo
                    have HLV := Lib.hid hlv
                    have hF := HFz.out.below hbr
                    have HG0 := Lib.hid (show WX.cell? ⟨w.heap.size, 0, none⟩ = some (.int .i64 g.f0) from (blk_cell hF.gg 0).trans rfl)
                    have HG1 := Lib.hid (show WX.cell? ⟨w.heap.size, 1, none⟩ = some (.int .i64 g.f1) from (blk_cell hF.gg 1).trans rfl)
                    have HG2 := Lib.hid (show WX.cell? ⟨w.heap.size, 2, none⟩ = some (.int .i64 g.f2) from (blk_cell hF.gg 2).trans rfl)
                    have HP0 := Lib.hid (show WX.cell? ⟨w.heap.size + 1, 0, none⟩ = some (.int .i64 M) from (blk_cell hF.gs 0).trans rfl)
                    have HL0 := Lib.hid x0
                    have HL1 := Lib.hid x1
                    have HL2 := Lib.hid x2
                    have HL3 := Lib.hid x3
                    have HL4 := Lib.hid x4
                    have HL5 := Lib.hid x5
                    have HL6 := Lib.hid x6
                    have HL7 := Lib.hid x7
                    have HL8 := Lib.hid x8
                    have HL9 := Lib.hid x9
                    have HL10 := Lib.hid x10
                    have HL11 := Lib.hid x11
                    have HX1 := Lib.hid x1
                    cases gk with
                    | zero => omega
                    | succ gk =>
                    clear hcl hcb hx hlo hlv hRo hRv hdj hbr hF x0 x1 x2 x3 x4 x5 x6 x7 x8 x9 x10 x11
                    go_wp2
                    refine wp_region_held_drew (S := fun w_ => Below WX.heap.size WX w_) (by kernel_rfl) (below_drew (Below.refl _ _)) (fun hS_ => ?_)
                    have hS : Below WX.heap.size WX _ := hS_
                    clear hS_
                    change wpAnyH _ _ _ _ _ 9 #[false, false, false, false, false, false, false, false, false] _ _
                    refine takeE 0 (some 123) #[true, false, false, false, false, false, false, false, false] hS ?_ (hy := fun w_ hS_ => by (replace hS_ : Below WX.heap.size WX w_ := hS_); have a0_ := below_cell hS_ HG0.out; have a1_ := below_cell hS_ HG1.out; have a2_ := below_cell hS_ HG2.out; go_simp <;> with_reducible rfl)
                    refine takeE 1 (some 124) #[true, true, false, false, false, false, false, false, false] hS ?_
                    refine takeE 2 (some 125) #[true, true, true, false, false, false, false, false, false] hS ?_
                    refine takeE 3 (some 126) #[true, true, true, true, false, false, false, false, false] hS ?_
                    refine takeE 4 (some 127) #[true, true, true, true, true, false, false, false, false] hS ?_
                    refine takeE 5 (some 128) #[true, true, true, true, true, true, false, false, false] hS ?_ (hy := fun w_ hS_ => by (replace hS_ : Below WX.heap.size WX w_ := hS_); have a3_ := below_cell hS_ HX1.out; go_simp <;> with_reducible rfl)
                    refine takeE 6 (some 129) #[true, true, true, true, true, true, true, false, false] hS ?_
                    refine takeE 7 (some 130) #[true, true, true, true, true, true, true, true, false] hS ?_ (hy := fun w_ hS_ => by (replace hS_ : Below WX.heap.size WX w_ := hS_); have a4_ := below_cell hS_ HP0.out; go_simp <;> with_reducible rfl)
                    refine doD (i := 8) (ls2 := #[true, true, true, true, true, true, true, true, true]) (by kernel_rfl) rfl (by kernel_rfl) (by kernel_rfl) (fun K hK => ?_)
                    go_simp
                    go_wp2_with (first | (go_at_call 22; go_loud ((with_reducible refine (HCL.out _).mono ?_); rintro e w3 ⟨rfl, hb3⟩)))
                    refine hK.out _ _ ?_ (fun hS_ => ?_)
                    · show Below WX.heap.size WX _
                      exact hS.trans (hb3.mono hS.size)
                    clear hK K hS hb3
                    have hS : Below WX.heap.size WX _ := hS_
                    clear hS_
                    refine wpAnyH_done (by kernel_rfl) ?_ _
                    try go_simp
                    have HS3 := Lib.hid hS
                    clear hS
                    cases cb with
                    | true =>
                      have hfo := filter_snoc (fun c => !closedP g c.f1 M) l2 i hlt
                      have hfv := filter_snoc (fun c => closedP g c.f1 M) l2 i hlt
                      simp only [HX.out, HCB.out, Bool.not_true, Bool.not_false, Bool.false_eq_true, if_true, if_false, List.append_nil] at hfo hfv
                      rw [HLO.out] at hfo
                      rw [HLV.out] at hfv
                      have HFO := Lib.hid hfo
                      have HFV := Lib.hid hfv
                      clear hfo hfv
                      have x0 := below_cell HS3.out HL0.out
                      have x1 := below_cell HS3.out HL1.out
                      have x2 := below_cell HS3.out HL2.out
                      have x3 := below_cell HS3.out HL3.out
                      have x4 := below_cell HS3.out HL4.out
                      have x5 := below_cell HS3.out HL5.out
                      have x6 := below_cell HS3.out HL6.out
                      have x7 := below_cell HS3.out HL7.out
                      have x8 := below_cell HS3.out HL8.out
                      have x9 := below_cell HS3.out HL9.out
                      have x10 := below_cell HS3.out HL10.out
                      have x11 := below_cell HS3.out HL11.out
                      have hba := (Below.refl w3.heap.size w3).alloc (Nat.le_refl _) (.cells #[.int .i64 x.f0, .int .i64 x.f1, .int .i64 x.f2.f0, .int .i64 x.f2.f1, .int .i64 x.f2.f2, .int .i64 x.f2.f3, .int .i64 x.f2.f4.f0, .int .i64 x.f2.f4.f1, .int .i64 x.f2.f4.f2, .int .i64 x.f2.f4.f3, .int .i64 x.f2.f5, .int .i64 x.f2.f6] 46)
                      have hC5 : k46.C (w3.alloc (.cells #[.int .i64 x.f0, .int .i64 x.f1, .int .i64 x.f2.f0, .int .i64 x.f2.f1, .int .i64 x.f2.f2, .int .i64 x.f2.f3, .int .i64 x.f2.f4.f0, .int .i64 x.f2.f4.f1, .int .i64 x.f2.f4.f2, .int .i64 x.f2.f4.f3, .int .i64 x.f2.f5, .int .i64 x.f2.f6] 46)) (some ⟨w3.heap.size, 0, none⟩) 1 [x] := one_C (heap_alloc_new _ _)
                      have h3 := HBRz.out.trans (HS3.out.mono HBRz.out.size)
                      have HRo5 := Lib.hid (Kd.R_below (Kd.R_below HRO.out HS3.out) hba)
                      have HRv5 := Lib.hid (Kd.R_below (Kd.R_below HRV.out HS3.out) hba)
                      have HC5 := Lib.hid hC5
                      have HB5 := Lib.hid (h3.trans (hba.mono h3.size))
                      have htl : lo.length + lv.length ≤ 2000 := by
                        rw [← HLO.out, ← HLV.out]
                        have h1 := List.length_filter_le (fun c => !closedP g c.f1 M) (l2.take i)
                        have h2 := List.length_filter_le (fun c => closedP g c.f1 M) (l2.take i)
                        rw [List.length_take] at h1 h2
                        omega
                      have HTL := Lib.hid htl
                      clear hba hC5 h3 htl
                      go_wp2_with (first | ((with_reducible refine gate_builtin (b := .append) (xs := #[.tmp 132, .tmp 137]) rfl ?_); (try (refine gate_guard (by rfl) ?_; dsimp only)); at_builtin; refine Kd.R_append_rows k46 (w0 := Wz) Wz.heap.size rfl (.tmp 132) (.tmp 137) 26 46 (.agg #[(.int .i64 0), (.int .i64 0), (.int .i64 0), (.int .i64 0), (.int .i64 0), (.int .i64 0), (.int .i64 0), (.int .i64 0), (.int .i64 0), (.int .i64 0), (.int .i64 0), (.int .i64 0)]) 96 rfl Try.underlying26 info46 rfl (by decide) (by omega) u17 lv [x] _ _ _ (fun _ => True) (fun _ => False) rfl rfl HRv5.out HC5.out (fun _ _ h => by obtain rfl := k46_open h; exact k46_mkM _ _ _ _) (fun _ h => h.elim) (fun _ _ => trivial) HB5.out HB5.out.size ?aL ?_; (case aL => have h_ := HTL.out; omega); intro v8 w8 hR8 hb8 hg8 hat8; have HR8 := Lib.hid hR8; have HB8 := Lib.hid hb8; have HG8 := Lib.hid hg8; have HAT8 := Lib.hid hat8; clear hR8 hb8 hg8 hat8))
                      go_roundg gk
                      case measure => omega
                      case rel =>
                        have h2 := row_two HRo5.out HG8.out HAT8.out (fun k h1 h2 => HDJ.out k h2 h1)
                        exact ⟨i + 1, by first | rfl | (congr 1), by omega, by omega, by rw [HFO.out]; exact h2.1, by rw [HFV.out]; exact HR8.out, (fun k h1 h2' => h2.2 k h2' h1), HB8.out⟩
                    | false =>
                      have hfo := filter_snoc (fun c => !closedP g c.f1 M) l2 i hlt
                      have hfv := filter_snoc (fun c => closedP g c.f1 M) l2 i hlt
                      simp only [HX.out, HCB.out, Bool.not_true, Bool.not_false, Bool.false_eq_true, if_true, if_false, List.append_nil] at hfo hfv
                      rw [HLO.out] at hfo
                      rw [HLV.out] at hfv
                      have HFO := Lib.hid hfo
                      have HFV := Lib.hid hfv
                      clear hfo hfv
                      have x0 := below_cell HS3.out HL0.out
                      have x1 := below_cell HS3.out HL1.out
                      have x2 := below_cell HS3.out HL2.out
                      have x3 := below_cell HS3.out HL3.out
                      have x4 := below_cell HS3.out HL4.out
                      have x5 := below_cell HS3.out HL5.out
                      have x6 := below_cell HS3.out HL6.out
                      have x7 := below_cell HS3.out HL7.out
                      have x8 := below_cell HS3.out HL8.out
                      have x9 := below_cell HS3.out HL9.out
                      have x10 := below_cell HS3.out HL10.out
                      have x11 := below_cell HS3.out HL11.out
                      have hba := (Below.refl w3.heap.size w3).alloc (Nat.le_refl _) (.cells #[.int .i64 x.f0, .int .i64 x.f1, .int .i64 x.f2.f0, .int .i64 x.f2.f1, .int .i64 x.f2.f2, .int .i64 x.f2.f3, .int .i64 x.f2.f4.f0, .int .i64 x.f2.f4.f1, .int .i64 x.f2.f4.f2, .int .i64 x.f2.f4.f3, .int .i64 x.f2.f5, .int .i64 x.f2.f6] 46)
                      have hC5 : k46.C (w3.alloc (.cells #[.int .i64 x.f0, .int .i64 x.f1, .int .i64 x.f2.f0, .int .i64 x.f2.f1, .int .i64 x.f2.f2, .int .i64 x.f2.f3, .int .i64 x.f2.f4.f0, .int .i64 x.f2.f4.f1, .int .i64 x.f2.f4.f2, .int .i64 x.f2.f4.f3, .int .i64 x.f2.f5, .int .i64 x.f2.f6] 46)) (some ⟨w3.heap.size, 0, none⟩) 1 [x] := one_C (heap_alloc_new _ _)
                      have h3 := HBRz.out.trans (HS3.out.mono HBRz.out.size)
                      have HRo5 := Lib.hid (Kd.R_below (Kd.R_below HRO.out HS3.out) hba)
                      have HRv5 := Lib.hid (Kd.R_below (Kd.R_below HRV.out HS3.out) hba)
                      have HC5 := Lib.hid hC5
                      have HB5 := Lib.hid (h3.trans (hba.mono h3.size))
                      have htl : lo.length + lv.length ≤ 2000 := by
                        rw [← HLO.out, ← HLV.out]
                        have h1 := List.length_filter_le (fun c => !closedP g c.f1 M) (l2.take i)
                        have h2 := List.length_filter_le (fun c => closedP g c.f1 M) (l2.take i)
                        rw [List.length_take] at h1 h2
                        omega
                      have HTL := Lib.hid htl
                      clear hba hC5 h3 htl
                      go_wp2_with (first | ((with_reducible refine gate_builtin (b := .append) (xs := #[.tmp 139, .tmp 144]) rfl ?_); (try (refine gate_guard (by rfl) ?_; dsimp only)); at_builtin; refine Kd.R_append_rows k46 (w0 := Wz) Wz.heap.size rfl (.tmp 139) (.tmp 144) 26 46 (.agg #[(.int .i64 0), (.int .i64 0), (.int .i64 0), (.int .i64 0), (.int .i64 0), (.int .i64 0), (.int .i64 0), (.int .i64 0), (.int .i64 0), (.int .i64 0), (.int .i64 0), (.int .i64 0)]) 96 rfl Try.underlying26 info46 rfl (by decide) (by omega) u16 lo [x] _ _ _ (fun _ => True) (fun _ => False) rfl rfl HRo5.out HC5.out (fun _ _ h => by obtain rfl := k46_open h; exact k46_mkM _ _ _ _) (fun _ h => h.elim) (fun _ _ => trivial) HB5.out HB5.out.size ?aL ?_; (case aL => have h_ := HTL.out; omega); intro v8 w8 hR8 hb8 hg8 hat8; have HR8 := Lib.hid hR8; have HB8 := Lib.hid hb8; have HG8 := Lib.hid hg8; have HAT8 := Lib.hid hat8; clear hR8 hb8 hg8 hat8))
                      go_roundg gk
                      case measure => omega
                      case rel =>
                        have h2 := row_two HRv5.out HG8.out HAT8.out HDJ.out
                        exact ⟨i + 1, by first | rfl | (congr 1), by omega, by omega, by rw [HFO.out]; exact HR8.out, by rw [HFV.out]; exact h2.1, h2.2, HB8.out⟩
                case rest =>
                  obtain ⟨hRo, hRv, hbw⟩ := hcut
                  have hF := HFz.out.below hbw
                  have hk := HSZz.out
                  obtain ⟨KO, hKO⟩ : ∃ q, l2.filter (fun c => !closedP g c.f1 M) = q := ⟨_, rfl⟩
                  obtain ⟨KL, hKL⟩ : ∃ q, l2.filter (fun c => closedP g c.f1 M) = q := ⟨_, rfl⟩
                  have hfp := HFPg.out
                  rw [hKO, hKL] at hfp
                  rw [hKO] at hRo
                  rw [hKL] at hRv
                  have hRo2 := R_base hRo (show w.heap.size ≤ _ by omega) (show w.heap.size + 4 ≤ _ by omega)
                  have hRv2 := R_base hRv (show w.heap.size ≤ _ by omega) (show w.heap.size + 4 ≤ _ by omega)
                  obtain ⟨Ao, co, rfl, hco, _⟩ := Kd.R_reads hRo
                  obtain ⟨Av, cv, rfl, hcv, _⟩ := Kd.R_reads hRv
                  obtain ⟨s0, s1, s2, s3, s4⟩ := cell5s hF.gs
                  have f4 := blk_frozen hF.gs 4
                  have HFe := Lib.hid hF
                  have HRO := Lib.hid hRo2
                  have HRV := Lib.hid hRv2
                  have HFPh := Lib.hid hfp
                  clear hF hk hKO hKL hfp hRo hRv hRo2 hRv2 hbw hcv
                  go_upto_region 32 with fail
                  obtain ⟨W31, hW31⟩ : ∃ W, W = wc.setCell ⟨w.heap.size + 1, 4, none⟩ (.slice Ao KO.length co) := ⟨_, rfl⟩
                  have hF31 : FR w W31 g r M la s.f2 n2 (.slice Ao KO.length co) := by rw [hW31]; exact HFe.out.put 4 rfl
                  have hRo31 : Kd.R k46 46 W31 w.heap.size (fun k => w.heap.size + 4 ≤ k) (.slice Ao KO.length co) KO := by rw [hW31]; exact R_other HRO.out (fun k hk => heap_setCell_other _ _ _ _ (show k ≠ w.heap.size + 1 by omega))
                  have hRv31 : Kd.R k46 46 W31 w.heap.size (fun k => w.heap.size + 4 ≤ k) (.slice Av KL.length cv) KL := by rw [hW31]; exact R_other HRV.out (fun k hk => heap_setCell_other _ _ _ _ (show k ≠ w.heap.size + 1 by omega))
                  rw [← hW31]
                  clear hW31 s0 s1 s2 s3 s4 f4
                  obtain ⟨s0, s1, s2, s3, s4⟩ := cell5s hF31.gs
                  obtain ⟨r0, r1, r2, r3, r4⟩ := cell5s hF31.ge
                  have f0 := blk_frozen hF31.ge 0
                  have f1 := blk_frozen hF31.ge 1
                  have f2 := blk_frozen hF31.ge 2
                  have f3 := blk_frozen hF31.ge 3
                  have f4 := blk_frozen hF31.ge 4
                  have HF31 := Lib.hid hF31
                  have HRO31 := Lib.hid hRo31
                  have HRV31 := Lib.hid hRv31
                  clear hF31 hRo31 hRv31
                  go_wp2
                  have hp := HFPh.out
                  subst hp
                  refine bodyPost_ret (results_ctt rfl _ _ (w.heap.size + 1 + 1 + 1) 28 #[.int .i64 M, .int .i64 la, .int .i64 s.f2, .int .i64 n2, .slice Ao KO.length co] (0, 0) _ rfl (put5_heap (w := W31) (g := w.heap.size + 1 + 1 + 1) HF31.out.ge (.int .i64 M) (.int .i64 la) (.int .i64 s.f2) (.int .i64 n2) (.slice Ao KO.length co)) Try.underlying28 rfl (by kernel_rfl)) rfl ?_
                  have hlast : LW 4 w W31 A c s.f4 (.slice Ao KO.length co) KO := ⟨Ao, co, rfl, hco, .inr HRO31.out⟩
                  exact ⟨_, _, rfl, hlast.put5 _ (by omega) (by omega) _ _ _ _ _, R_ok (R_other HRV31.out (fun k hk => put5_other (by omega) _ _ _ _ _)) (fun _ _ => trivial), put5_below (g := w.heap.size + 1 + 1 + 1) HF31.out.bl (by omega) _ _ _ _ _⟩
end Go.Proofs.Ytgipepjpkmlmaaa.P
