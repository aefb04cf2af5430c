import Derived.Test.YtgipepjpkmlmaaaQR1
import Derived.Test.YtgipepjpkmlmaaaQR2
import Derived.Test.YtgipepjpkmlmaaaQR3
import Derived.Test.YtgipepjpkmlmaaaQR4
import Derived.Test.YtgipepjpkmlmaaaQR5
import Derived.Test.YtgipepjpkmlmaaaQR6
import Derived.Test.YtgipepjpkmlmaaaQR7
import Derived.Test.YtgipepjpkmlmaaaQR8
import Derived.Test.YtgipepjpkmlmaaaQR9
import Derived.Test.YtgipepjpkmlmaaaQR10
import Derived.Test.YtgipepjpkmlmaaaQR11
import Derived.Test.YtgipepjpkmlmaaaQR12
import Derived.Test.YtgipepjpkmlmaaaQR13
import Derived.Test.YtgipepjpkmlmaaaQR14
import Derived.Test.YtgipepjpkmlmaaaQR15
import Derived.Test.YtgipepjpkmlmaaaQR16
import Derived.Test.YtgipepjpkmlmaaaQR17
import Derived.Test.YtgipepjpkmlmaaaQR18
import Derived.Test.YtgipepjpkmlmaaaQR19
import Derived.Test.YtgipepjpkmlmaaaQR20
import Derived.Test.YtgipepjpkmlmaaaQR21
import Derived.Test.YtgipepjpkmlmaaaQR22
namespace Go.Proofs.Ytgipepjpkmlmaaa.P
open Go.RowKit Go.Proofs.YtgipepjpkmlmaaaW.PrintWords Go.Proofs.YtgipepjpkmlmaaaW.PrintLast Go.Proofs.YtgipepjpkmlmaaaW.PrintMore
set_option linter.unusedVariables false
set_option linter.unusedSimpArgs false
theorem most_place (m : Int) (h0 : -9223372036854775808 ≤ m) (h1 : m ≤ 9223372036854775807) : ∃ k : Nat, 1 ≤ k ∧ k ≤ 20 ∧ wrap64 (1 + Int.tmod (wrap64 (Int.tmod m 20 + 20)) 20) = (k : Int) := by
  have a := Int.tmod_lt_of_pos m (show (0 : Int) < 20 by omega)
  have b := Int.lt_tmod_of_pos m (show (0 : Int) < 20 by omega)
  have w1 : wrap64 (Int.tmod m 20 + 20) = Int.tmod m 20 + 20 := by unfold wrap64; omega
  rw [w1, Int.tmod_eq_emod_of_nonneg (by omega)]
  have c := Int.emod_nonneg (Int.tmod m 20 + 20) (show (20 : Int) ≠ 0 by omega)
  have d := Int.emod_lt_of_pos (Int.tmod m 20 + 20) (show (0 : Int) < 20 by omega)
  refine ⟨(1 + (Int.tmod m 20 + 20) % 20).toNat, by omega, by omega, ?_⟩
  unfold wrap64
  omega
theorem own_lt50 {w : World} {B : Nat} {ok : Nat → Prop} {v : Value} {l : List S50} (h : Kd.R k50 50 w B ok v l) {k : Nat} (hk : v.ownBlock = some k) : B ≤ k ∧ k < w.heap.size := by
  obtain ⟨cl, hcl⟩ := own_typed (Kd.R_own h).choose_spec k hk
  exact ⟨Kd.R_base h k hk, lt_of_block hcl⟩
theorem R_other50r {w w' : World} {B : Nat} {ok ok2 : Nat → Prop} {v : Value} {l : List S50} (h : Kd.R k50 50 w B ok v l) (h2 : ∀ k, v.ownBlock = some k → ok2 k ∧ w'.heap[k]? = w.heap[k]?) : Kd.R k50 50 w' B ok2 v l := by
  obtain ⟨_, inner, ho, hr⟩ := h
  refine ⟨fun k hk => (h2 k hk).1, inner, ⟨ho.1, ?_⟩, hr.imp_ (fun p c hM => by obtain rfl := k50_openM hM; exact k50_mkM _ _ _ _)⟩
  rcases ho.2 with e | ⟨g, cap, cur, e, h1, h3, h4⟩
  · exact .inl e
  · exact .inr ⟨g, cap, cur, e, h1, ((h2 g (by rw [e]; rfl)).2).trans h3, h4⟩
set_option maxHeartbeats 16000000 in
set_option maxRecDepth 100000 in
/-- ChangeRuns answers true. -/
theorem changeRuns_walk (g : S23) (A : Option Addr) (c : Nat) (l : List S50) (mo : Int) (w : World) (hr : k50.C w A l.length l) (hc : l.length ≤ c) (hwf : (Lit.int .i64 mo).wf = true) :
    Calls Try.prog 11 #[gridV g, .slice A l.length c, .int .i64 mo] w fun e w' => e = .returned (.bool true) ∧ Below w.heap.size w w' := by
  obtain ⟨WB, hWB⟩ : ∃ W, W = w.alloc (.cells #[.int .i64 g.f0, .int .i64 g.f1, .int .i64 g.f2] 23) := ⟨_, rfl⟩
  have hgB : WB.heap[w.heap.size]? = some (.cells #[.int .i64 g.f0, .int .i64 g.f1, .int .i64 g.f2] 23 (0, 0)) := by rw [hWB]; exact heap_alloc_new _ _
  have hbB : Below w.heap.size w WB := by rw [hWB]; exact (Below.refl _ _).alloc (Nat.le_refl _) _
  have hsome := some_calls A c l WB (Kd.C_below hr hbB) hc
  obtain ⟨L, hL⟩ : ∃ L, someP l = L := ⟨_, rfl⟩
  have hLl := someP_length l
  rw [hL] at hsome hLl
  have HSOME := Lib.hid hsome
  have HWB := Lib.hid hWB
  have HGB0 := Lib.hid hgB
  have HBB := Lib.hid hbB
  have hcr : -9223372036854775808 ≤ mo ∧ mo ≤ 9223372036854775807 := by
    unfold Lit.wf at hwf
    simp only [Bool.and_eq_true, decide_eq_true_eq] at hwf
    exact hwf
  obtain ⟨M, hM1, hM2, hMv⟩ := most_place mo hcr.1 hcr.2
  have HMV := Lib.hid hMv
  have HAW := Lib.hid awake17_calls
  clear hsome hWB hgB hbB hL hr hc hwf hcr hMv
  go_enter Try.func11, Try.ntmps11
  go_upto_region 2 with (first | (go_at_call 14; go_loud (rw [← HWB.out]; (with_reducible refine HSOME.out.mono ?_); rintro e w1 ⟨v1, rfl, hR1, hb1⟩; obtain ⟨A1, c1, rfl, hc1, hL1⟩ := Kd.R_reads hR1; have HG1 := Lib.hid (blk_below HGB0.out hb1); have HL1 := Lib.hid hL1; have HB1 := Lib.hid (HBB.out.trans (hb1.mono HBB.out.size)); clear hR1 hL1 hb1)))
  go_cut [2] from 15 to 21 (fun v2 wc => v2 = .int .i64 (M : Int) ∧ wc = w1)
  case first =>
    have hmv := HMV.out
    go_wp2
    go_meet
    case rel => exact ⟨by rw [← HMV.out], rfl⟩
  case rest =>
  obtain ⟨rfl, hwc_⟩ := hcut
  subst hwc_
  obtain ⟨WC, hWC_⟩ : ∃ W, W = wc := ⟨_, rfl⟩
  subst hWC_
  have hgl : w.heap.size < WC.heap.size := lt_of_block HG1.out
  have HGL := Lib.hid hgl
  clear hgl
  go_upto_block 0 with fail
  obtain ⟨W0, hW0⟩ : ∃ W, W = WC.alloc (.cells #[.int .i64 (-1), .int .i64 0, .int .i64 0, .int .i64 0, .slice none 0 0] 28) := ⟨_, rfl⟩
  have h0 : W0.heap[WC.heap.size]? = some (.cells #[.int .i64 (-1), .int .i64 0, .int .i64 0, .int .i64 0, .slice none 0 0] 28 (0, 0)) := by rw [hW0]; exact heap_alloc_new _ _
  have hb0 : Below WC.heap.size WC W0 := by rw [hW0]; exact (Below.refl _ _).alloc (Nat.le_refl _) _
  rw [← hW0]
  have H0 := Lib.hid h0
  have HB0 := Lib.hid hb0
  clear hW0 h0 hb0
  go_wp2
  go_loopg [1, 8] L.length (fun kq v1 v8 WX => ∃ (R : List S50) (q : S28) (log : List S50) (A1 A6 : Option Addr) (c1 c6 : Nat), v1 = .slice A1 R.length c1 ∧ R.length ≤ c1 ∧ R.length ≤ kq ∧ Kd.C k50 WC A1 R.length R ∧ goodQ g q ∧ (chkG g = false → A6 = none ∧ c6 = 0) ∧ q.f3 + R.length ≤ 150 ∧ Steps s0 log q ∧ log.length + 200 * R.length ≤ 30000 ∧ WX.heap[WC.heap.size]? = some (.cells #[.int .i64 q.f0, .int .i64 q.f1, .int .i64 q.f2, .int .i64 q.f3, .slice A6 q.f4.length c6] 28 (0, 0)) ∧ LW 1 WC WX none 0 [] (.slice A6 q.f4.length c6) q.f4 ∧ Kd.R k50 50 WX WC.heap.size (fun k => WC.heap.size < k) v8 log ∧ (∀ k, (Value.slice A6 q.f4.length c6).ownBlock = some k → v8.ownBlock ≠ some k) ∧ Below WC.heap.size WC WX)
  case atStart => exact ⟨L, s0, [], A1, none, c1, 0, rfl, hc1, Nat.le_refl _, HL1.out, ⟨fun h => invM_zero h, fun _ => rfl⟩, fun _ => ⟨rfl, rfl⟩, by show (0 : Int) + _ ≤ 150; omega, rfl, by simp only [List.length_nil]; omega, H0.out, LW.nil 1 WC _ none 0 [], Kd.R_nil _ _ _ _ _, (fun k hk => by cases hk), HB0.out⟩
  case round =>
    clear HL1 hc1
    obtain ⟨R, q, log, A1, A6, c1, c6, rfl, hc1, hRk, hCR, hgood, hz, hf3, hst, hll, hgs, hlw, hrl, hdj, hbr⟩ := hrel
    obtain ⟨WX, hWX⟩ : ∃ W, W = wr := ⟨_, rfl⟩
    subst hWX
    obtain ⟨A8, c8, rfl, hc8, _⟩ := Kd.R_reads hrl
    obtain ⟨_, _, hsl, hc6, hCq⟩ := hlw.reads
    injection hsl with e1 _ e3
    subst e1
    subst e3
    obtain ⟨nq, hnq⟩ : ∃ n, q.f4.length = n := ⟨_, rfl⟩
    obtain ⟨nl, hnl⟩ : ∃ n, log.length = n := ⟨_, rfl⟩
    obtain ⟨nR, hnR⟩ : ∃ n, R.length = n := ⟨_, rfl⟩
    rw [hnq] at hgs hlw hdj hc6 hCq
    rw [hnl] at hll hrl hdj hc8 ⊢
    rw [hnR] at hc1 hRk hCR hf3 hll ⊢
    have HNQ := Lib.hid hnq
    have HNL := Lib.hid hnl
    have HNR := Lib.hid hnR
    have HCR0 := Lib.hid hCR
    have HCR := Lib.hid (Kd.C_below hCR hbr)
    have HGOOD := Lib.hid hgood
    have HZQ := Lib.hid hz
    have HST := Lib.hid hst
    have HGS := Lib.hid hgs
    have HLX := Lib.hid (show LW 1 WC WX none 0 [] (.slice A6 q.f4.length c6) q.f4 by rw [HNQ.out]; exact hlw)
    have HRL := Lib.hid hrl
    have HDJ := Lib.hid hdj
    have HBR := Lib.hid hbr
    have HCq := Lib.hid hCq
    have hgx := blk_below HG1.out hbr
    have g0 : WX.cell? ⟨w.heap.size, 0, none⟩ = some (.int .i64 g.f0) := (blk_cell hgx 0).trans rfl
    have g1 : WX.cell? ⟨w.heap.size, 1, none⟩ = some (.int .i64 g.f1) := (blk_cell hgx 1).trans rfl
    have g2 : WX.cell? ⟨w.heap.size, 2, none⟩ = some (.int .i64 g.f2) := (blk_cell hgx 2).trans rfl
    have z0 : WX.cell? ⟨WC.heap.size, 0, none⟩ = some (.int .i64 q.f0) := (blk_cell hgs 0).trans rfl
    have z1 : WX.cell? ⟨WC.heap.size, 1, none⟩ = some (.int .i64 q.f1) := (blk_cell hgs 1).trans rfl
    have z2 : WX.cell? ⟨WC.heap.size, 2, none⟩ = some (.int .i64 q.f2) := (blk_cell hgs 2).trans rfl
    have z3 : WX.cell? ⟨WC.heap.size, 3, none⟩ = some (.int .i64 q.f3) := (blk_cell hgs 3).trans rfl
    have z4 : WX.cell? ⟨WC.heap.size, 4, none⟩ = some (.slice A6 nq c6) := (blk_cell hgs 4).trans rfl
    clear hnq hnl hnR hCR hgood hz hst hgs hlw hrl hdj hbr hCq hgx
    by_cases hlt : nR = 0
    · have d1 : decide ((0 : Int) < (nR : Int)) = false := decide_eq_false (by omega)
      have e0 : nR = 0 := hlt
      cases hg : chkG g with
      | false =>
        have hno := fun w => mayR_no g q hg A6 c6 w
        rw [HNQ.out] at hno
        have HNO := Lib.hid hno
        clear hno hg
        go_wp2_with (first | (go_at_call 35; go_loud ((with_reducible refine (HNO.out _).mono ?_); rintro e w5 ⟨rfl, hb5⟩; have HB5 := Lib.hid hb5; clear hb5)) | (go_at_call 31; go_loud ((with_reducible refine (HAW.out _).mono ?_); rintro e w6 ⟨rfl, hb6⟩; have HB6 := Lib.hid hb6; clear hb6)))
        go_ret
        exact ⟨rfl, HB1.out.trans ((HBR.out.trans ((HB5.out.trans (HB6.out.mono HB5.out.size)).mono HBR.out.size)).mono HB1.out.size)⟩
      | true =>
        have hi := HGOOD.out.1 hg
        have hmay := fun (w : World) (h : k46.C w A6 q.f4.length q.f4) => mayR_calls g q hi.r.inv A6 c6 w h (by rw [HNQ.out]; exact hc6)
        have hres := fun (w : World) (h : Kd.C k50 w A8 log.length log) => restore_calls g log q HST.out (inv_check hi.r.inv) (by have := hi.r.inv.len; omega) A8 c8 w h (by rw [HNL.out]; exact hc8) (by rw [HNL.out]; omega)
        have hlen := hi.r.inv.len
        rw [HNQ.out] at hmay hlen
        unfold stV at hres
        rw [HNL.out] at hres
        rw [HNQ.out] at hres
        have HMAY := Lib.hid hmay
        have HRES := Lib.hid hres
        have HCL := Lib.hid (show Kd.C k50 WX A8 nl log by have h := (Kd.R_reads' HRL.out).2.2; rw [HNL.out] at h; exact h)
        clear hmay hres hg hi
        go_upto_region 16 with (first | (go_at_call 35; go_loud ((with_reducible refine (HMAY.out _ HCq.out).mono ?_); rintro e w5 ⟨rfl, hb5⟩; have hgx5 := blk_below (blk_below HG1.out HBR.out) hb5; have h0 : w5.cell? ⟨w.heap.size, 0, none⟩ = some (.int .i64 g.f0) := (blk_cell hgx5 0).trans rfl; have h1 : w5.cell? ⟨w.heap.size, 1, none⟩ = some (.int .i64 g.f1) := (blk_cell hgx5 1).trans rfl; have h2 : w5.cell? ⟨w.heap.size, 2, none⟩ = some (.int .i64 g.f2) := (blk_cell hgx5 2).trans rfl; have HCL5 := Lib.hid (Kd.C_below HCL.out hb5); have HB5 := Lib.hid hb5; clear hb5 hgx5)) | (go_at_call 37; go_loud ((with_reducible refine (HRES.out _ HCL5.out).mono ?_); rintro e w6 ⟨A7, c7, rfl, hR7, hb6⟩; have hc7 := (Kd.R_reads' hR7).2.1; have HR7 := Lib.hid hR7; have HB6 := Lib.hid hb6; clear hR7 hb6)))
        obtain ⟨W7, hW7⟩ : ∃ W, W = w6.alloc (.cells #[.int .i64 q.f0, .int .i64 q.f1, .int .i64 q.f2, .int .i64 q.f3, .slice A7 nq c7] 28) := ⟨_, rfl⟩
        have hb7 : Below w6.heap.size w6 W7 := by rw [hW7]; exact (Below.refl _ _).alloc (Nat.le_refl _) _
        have hg7 : W7.heap[w6.heap.size]? = some (.cells #[.int .i64 q.f0, .int .i64 q.f1, .int .i64 q.f2, .int .i64 q.f3, .slice A7 nq c7] 28 (0, 0)) := by rw [hW7]; exact heap_alloc_new _ _
        rw [← hW7]
        have hbz := HB5.out.trans (HB6.out.mono HB5.out.size)
        have hby := hbz.trans (hb7.mono hbz.size)
        have hs7 := blk_below HGS.out hby
        clear z0 z1 z2 z3 z4
        have z0 : W7.cell? ⟨WC.heap.size, 0, none⟩ = some (.int .i64 q.f0) := (blk_cell hs7 0).trans rfl
        have z1 : W7.cell? ⟨WC.heap.size, 1, none⟩ = some (.int .i64 q.f1) := (blk_cell hs7 1).trans rfl
        have z2 : W7.cell? ⟨WC.heap.size, 2, none⟩ = some (.int .i64 q.f2) := (blk_cell hs7 2).trans rfl
        have z3 : W7.cell? ⟨WC.heap.size, 3, none⟩ = some (.int .i64 q.f3) := (blk_cell hs7 3).trans rfl
        have z4 : W7.cell? ⟨WC.heap.size, 4, none⟩ = some (.slice A6 nq c6) := (blk_cell hs7 4).trans rfl
        have y0 : W7.cell? ⟨w6.heap.size, 0, none⟩ = some (.int .i64 q.f0) := (blk_cell hg7 0).trans rfl
        have y1 : W7.cell? ⟨w6.heap.size, 1, none⟩ = some (.int .i64 q.f1) := (blk_cell hg7 1).trans rfl
        have y2 : W7.cell? ⟨w6.heap.size, 2, none⟩ = some (.int .i64 q.f2) := (blk_cell hg7 2).trans rfl
        have y3 : W7.cell? ⟨w6.heap.size, 3, none⟩ = some (.int .i64 q.f3) := (blk_cell hg7 3).trans rfl
        have y4 : W7.cell? ⟨w6.heap.size, 4, none⟩ = some (.slice A7 nq c7) := (blk_cell hg7 4).trans rfl
        have hsm := headgateref16_Same.calls _ q.f0 q.f1 q.f2 q.f3 A6 c6 q.f4 q.f0 q.f1 q.f2 q.f3 A7 c7 q.f4 true W7 (by rw [HNQ.out]; exact Kd.C_below HCq.out hby) (by rw [HNQ.out]; exact hc6) (by have h := (Kd.R_reads' HR7.out).2.2; rw [HNQ.out]; rw [HNQ.out] at h; exact Kd.C_below h hb7) (by rw [HNQ.out]; exact hc7) (same_state q (by rw [HNQ.out]; omega))
        rw [HNQ.out] at hsm
        have HSM := Lib.hid hsm
        have HBY := Lib.hid hby
        clear hsm hbz hby hs7 hb7 hg7 hW7
        go_wp2_with (first | (go_at_call 18; go_loud ((with_reducible refine HSM.out.mono ?_); rintro e w8 ⟨rfl, hb8⟩; have HB8 := Lib.hid hb8; clear hb8)) | (go_at_call 31; go_loud ((with_reducible refine (HAW.out _).mono ?_); rintro e w9 ⟨rfl, hb9⟩; have HB9 := Lib.hid hb9; clear hb9)))
        go_ret
        have h1 := HB8.out.trans (HB9.out.mono HB8.out.size)
        have h2 := HBY.out.trans (h1.mono HBY.out.size)
        exact ⟨rfl, HB1.out.trans ((HBR.out.trans (h2.mono HBR.out.size)).mono HB1.out.size)⟩
    · have d1 : decide ((0 : Int) < (nR : Int)) = true := decide_eq_true (by omega)
      cases gk with
      | zero => omega
      | succ gk =>
      obtain ⟨k, hk1, hkn, hkv⟩ : ∃ k : Nat, 1 ≤ k ∧ k ≤ nR ∧ (if (nR : Int) < (M : Int) then (nR : Int) else (M : Int)) = (k : Int) := by
        by_cases h : (nR : Int) < (M : Int)
        · exact ⟨nR, by omega, Nat.le_refl _, if_pos h⟩
        · exact ⟨M, hM1, by omega, if_neg h⟩
      have HKV := Lib.hid hkv
      clear hkv
      have HGc0 := Lib.hid g0
      have HGc1 := Lib.hid g1
      have HGc2 := Lib.hid g2
      have HS0 := Lib.hid z0
      have HS1 := Lib.hid z1
      have HS2 := Lib.hid z2
      have HS3 := Lib.hid z3
      have HS4 := Lib.hid z4
      clear g0 g1 g2 z0 z1 z2 z3 z4
      go_upto_region 6 with fail
      go_cut [9] from 23 to 51 (fun v9 wd => v9 = .int .i64 (k : Int) ∧ wd = WX)
      case first =>
        have hmin : min (M : Int) (nR : Int) = (k : Int) := by
          have h := HKV.out
          split at h <;> omega
        have HMIN := Lib.hid hmin
        clear hmin
        go_wp2
        go_meet
        case rel => exact ⟨by rw [HMIN.out], rfl⟩
      case rest =>
      obtain ⟨rfl, hwd_⟩ := hcut
      subst hwd_
      obtain ⟨wd, hwd_⟩ : ∃ W, W = wc := ⟨_, rfl⟩
      subst hwd_
      have hownX : ∀ k, (Value.slice A6 nq c6).ownBlock = some k → k < wd.heap.size := by
        intro k hk
        have h0 := lt_of_block HGS.out
        by_cases h3 : WC.heap.size + 1 ≤ k
        · rcases HLX.out.lt k (by rw [HNQ.out]; exact hk) h3 with h | h
          · exact h
          · rw [HNQ.out] at h
            rw [h] at hk
            cases hk
        · omega
      have HOWNX := Lib.hid hownX
      clear hownX
      have hk2 : (R.take k).length = k := by rw [List.length_take, HNR.out]; omega
      have hrun := fun (w : World) (h1 : k46.C w A6 nq q.f4) (h2 : Kd.C k50 w A1 nR R) (h3 : wd.heap.size ≤ w.heap.size) => runG_calls g (R.take k) q HGOOD.out (by rw [hk2]; omega) A6 A1 c6 c1 w HZQ.out (by rw [HNQ.out]; exact h1) (by rw [HNQ.out]; exact hc6) (Kd.C_take (by rw [HNR.out]; exact h2) (by rw [HNR.out]; exact hkn)) (by rw [hk2]; omega) (by rw [hk2]; omega) (fun k hk => Nat.lt_of_lt_of_le (HOWNX.out k (by rw [← HNQ.out]; exact hk)) h3)
      have hgq := fun h => goodQ_run (l := R.take k) HGOOD.out (by rw [hk2]; omega) h
      rw [hk2] at hrun hgq
      obtain ⟨P, hP⟩ : ∃ p, runG g q (R.take k) = p := ⟨_, rfl⟩
      rw [hP] at hrun hgq
      obtain ⟨⟨t0, t1, t2, t3, t4⟩, tv, te⟩ := P
      rw [HNQ.out] at hrun
      simp only at hgq
      have HRUN := Lib.hid hrun
      have HGQ := Lib.hid hgq
      have HSZX := Lib.hid (show WC.heap.size + 1 ≤ wd.heap.size from lt_of_block HGS.out)
      have HCs := HCq
      clear hrun hgq hP hk2
      go_upto_region 7 with fail
      go_cut [10, 11, 12] from 23 to 51 (fun v10 v11 v12 we => v12 = .int .i64 te ∧ (∃ gt v4, v10 = .pointer (some ⟨gt, 0, none⟩) ∧ wd.heap.size ≤ gt ∧ we.heap[gt]? = some (.cells #[.int .i64 t0, .int .i64 t1, .int .i64 t2, .int .i64 t3, v4] 28 (0, 0)) ∧ LW 1 WC we none 0 [] v4 t4 ∧ (v4 = .slice A6 q.f4.length c6 ∨ ∀ k, v4.ownBlock = some k → wd.heap.size ≤ k)) ∧ Below wd.heap.size wd we)
      case first =>
        refine wp_region_held_drew (S := fun w_ => Below wd.heap.size wd w_) (by kernel_rfl) (below_drew (Below.refl _ _)) (fun hS_ => ?_)
        have hS : Below wd.heap.size wd _ := hS_
        clear hS_
        change wpAnyH _ _ _ _ _ 14 #[false, false, false, false, false, false, false, false, false, false, false, false, false, false] _ _
        refine takeE 0 (some 31) #[true, false, false, false, false, false, false, false, false, false, false, false, false, false] hS ?_ (hy := fun w_ hS_ => by (replace hS_ : Below wd.heap.size wd w_ := hS_); have a0_ := below_cell hS_ HGc0.out; have a1_ := below_cell hS_ HGc1.out; have a2_ := below_cell hS_ HGc2.out; go_simp <;> with_reducible rfl)
        refine takeE 1 (some 32) #[true, true, false, false, false, false, false, false, false, false, false, false, false, false] hS ?_ (hy := fun w_ hS_ => by (replace hS_ : Below wd.heap.size wd w_ := hS_); have b0_ := below_cell hS_ HS0.out; have b1_ := below_cell hS_ HS1.out; have b2_ := below_cell hS_ HS2.out; have b3_ := below_cell hS_ HS3.out; have b4_ := below_cell hS_ HS4.out; go_simp <;> with_reducible rfl)
        refine takeE 2 (some 33) #[true, true, true, false, false, false, false, false, false, false, false, false, false, false] hS ?_
        refine takeE 3 (some 34) #[true, true, true, true, false, false, false, false, false, false, false, false, false, false] hS ?_
        refine takeE 4 (some 35) #[true, true, true, true, true, false, false, false, false, false, false, false, false, false] hS ?_ (hy := fun w_ hS_ => by (replace hS_ : Below wd.heap.size wd w_ := hS_); have hb_ : (0 : Int) ≤ (k : Int) ∧ (k : Int) ≤ (c1 : Int) := (by omega); go_simp <;> with_reducible rfl)
        refine doD2 (i := 5) (j := 10) (l2 := #[true, true, true, true, true, true, false, false, false, false, false, false, false, false]) (l3 := #[true, true, true, true, true, false, false, false, false, false, true, false, false, false]) (by kernel_rfl) rfl rfl (by kernel_rfl) (by kernel_rfl) (by kernel_rfl) (by kernel_rfl) (fun K hK => ?_) (fun K hK => ?_)
        · go_simp
          go_wp2_with (first | (go_at_call 17; go_loud ((with_reducible refine (HRUN.out _ (Kd.C_below HCs.out hS) (Kd.C_below HCR.out hS) hS.size).mono ?_); have HSS := Lib.hid hS.size; rintro e wr2 ⟨v6, vo, rfl, hlw6, hRo, hb6⟩; obtain ⟨A9, c9, rfl, hc6, _⟩ := hlw6.reads; obtain ⟨Ao, co, rfl, hco, _⟩ := Kd.R_reads hRo; have HLW6 := Lib.hid hlw6; clear hlw6 hRo)))
          refine hK.out _ _ ?_ (fun hS_ => ?_)
          · show Below wd.heap.size wd _
            exact hS.trans (hb6.mono hS.size)
          clear hK K hS
          have hS : Below wd.heap.size wd _ := hS_
          clear hS_
          clear hb6
          refine takeE 6 (some 30) #[true, true, true, true, true, true, true, false, false, false, false, false, false, false] hS ?_
          refine takeE 7 (some 37) #[true, true, true, true, true, true, true, true, false, false, false, false, false, false] hS ?_
          refine takeE 8 (some 38) #[true, true, true, true, true, true, true, true, true, false, false, false, false, false] hS ?_
          refine takeE 9 (some 39) #[true, true, true, true, true, true, true, true, true, true, false, false, false, false] hS ?_
          have hSr := Lib.hid hS
          refine doD (i := 10) (ls2 := #[true, true, true, true, true, true, true, true, true, true, true, false, false, false]) (by kernel_rfl) rfl (by kernel_rfl) (by kernel_rfl) (fun K hK => ?_)
          go_simp
          refine hK.out _ _ ?_ (fun hS_ => ?_)
          · show Below wd.heap.size wd _
            exact hS.alloc hS.size _
          clear hK K hS
          have hS : Below wd.heap.size wd _ := hS_
          clear hS_
          refine doD (i := 11) (ls2 := #[true, true, true, true, true, true, true, true, true, true, true, true, false, false]) (by kernel_rfl) rfl (by kernel_rfl) (by kernel_rfl) (fun K hK => ?_)
          go_simp
          refine hK.out _ _ ?_ (fun hS_ => ?_)
          · show Below wd.heap.size wd _
            exact (hSr.out).alloc hSr.out.size _
          clear hK K hS
          have hS : Below wd.heap.size wd _ := hS_
          clear hS_
          refine takeE 12 (some 11) #[true, true, true, true, true, true, true, true, true, true, true, true, true, false] hS ?_
          refine takeE 13 (some 12) #[true, true, true, true, true, true, true, true, true, true, true, true, true, true] hS ?_
          refine wpAnyH_done (by kernel_rfl) ?_ _
          go_wp2
          go_meet
          case rel =>
            have h4 := LW.step2 HLX.out hS HLW6.out (fun vr h => Kd.R_below h ((Below.refl _ _).alloc (Nat.le_refl _) (.cells #[.int .i64 t0, .int .i64 t1, .int .i64 t2, .int .i64 t3, .slice A9 t4.length c9] 28))) HSZX.out HSS.out
            exact ⟨rfl, ⟨_, _, rfl, (by have h0 := hSr.out.size; exact h0), heap_alloc_new _ _, h4⟩, hS⟩
        · have hgbl := Lib.hid hS.size
          go_simp
          refine hK.out _ _ ?_ (fun hS_ => ?_)
          · show Below wd.heap.size wd _
            exact hS.alloc hS.size _
          clear hK K hS
          have hS : Below wd.heap.size wd _ := hS_
          clear hS_
          have HGB := hgbl
          clear hgbl
          refine doD (i := 5) (ls2 := #[true, true, true, true, true, true, false, false, false, false, true, false, false, false]) (by kernel_rfl) rfl (by kernel_rfl) (by kernel_rfl) (fun K hK => ?_)
          go_simp
          go_wp2_with (first | (go_at_call 17; go_loud ((with_reducible refine (HRUN.out _ (Kd.C_below HCs.out hS) (Kd.C_below HCR.out hS) hS.size).mono ?_); have hz0 := blk_drew (heap_alloc_new wd (.cells #[.int .i64 0, .int .i64 0, .int .i64 0, .int .i64 0, .slice none 0 0] 28)); have HZ := Lib.hid hz0; clear hz0; have HSS := Lib.hid hS.size; rintro e wr2 ⟨v6, vo, rfl, hlw6, hRo, hb6⟩; obtain ⟨A9, c9, rfl, hc6, _⟩ := hlw6.reads; obtain ⟨Ao, co, rfl, hco, _⟩ := Kd.R_reads hRo; have HLW6 := Lib.hid hlw6; have HZL := Lib.hid (lt_of_block HZ.out); have hz6 := blk_below HZ.out hb6; have z0_ : wr2.cell? ⟨_, 0, none⟩ = some (.int .i64 0) := (blk_cell hz6 0).trans rfl; have z1_ : wr2.cell? ⟨_, 1, none⟩ = some (.int .i64 0) := (blk_cell hz6 1).trans rfl; have z2_ : wr2.cell? ⟨_, 2, none⟩ = some (.int .i64 0) := (blk_cell hz6 2).trans rfl; have z3_ : wr2.cell? ⟨_, 3, none⟩ = some (.int .i64 0) := (blk_cell hz6 3).trans rfl; have z4_ : wr2.cell? ⟨_, 4, none⟩ = some (.slice none 0 0) := (blk_cell hz6 4).trans rfl; have y0_ : wr2.frozen? ⟨_, 0, none⟩ = false := blk_frozen hz6 0; have y1_ : wr2.frozen? ⟨_, 1, none⟩ = false := blk_frozen hz6 1; have y2_ : wr2.frozen? ⟨_, 2, none⟩ = false := blk_frozen hz6 2; have y3_ : wr2.frozen? ⟨_, 3, none⟩ = false := blk_frozen hz6 3; have y4_ : wr2.frozen? ⟨_, 4, none⟩ = false := blk_frozen hz6 4; replace HZ := Lib.hid hz6; clear hz6; clear hlw6 hRo)))
          refine hK.out _ _ ?_ (fun hS_ => ?_)
          · show Below wd.heap.size wd _
            exact hS.trans (hb6.mono hS.size)
          clear hK K hS
          have hS : Below wd.heap.size wd _ := hS_
          clear hS_
          clear hb6
          refine takeE 6 (some 30) #[true, true, true, true, true, true, true, false, false, false, true, false, false, false] hS ?_
          refine takeE 7 (some 37) #[true, true, true, true, true, true, true, true, false, false, true, false, false, false] hS ?_
          refine takeE 8 (some 38) #[true, true, true, true, true, true, true, true, true, false, true, false, false, false] hS ?_
          refine takeE 9 (some 39) #[true, true, true, true, true, true, true, true, true, true, true, false, false, false] hS ?_
          refine doD (i := 11) (ls2 := #[true, true, true, true, true, true, true, true, true, true, true, true, false, false]) (by kernel_rfl) rfl (by kernel_rfl) (by kernel_rfl) (fun K hK => ?_)
          go_simp
          refine hK.out _ _ ?_ (fun hS_ => ?_)
          · show Below wd.heap.size wd _
            exact put5_belowZ hS HZ.out (by have h0 := HGB.out; first | omega | (simp at h0; omega)) (.int .i64 t0) (.int .i64 t1) (.int .i64 t2) (.int .i64 t3) (.slice A9 t4.length c9)
          clear hK K hS
          have hS : Below wd.heap.size wd _ := hS_
          clear hS_
          refine takeE 12 (some 11) #[true, true, true, true, true, true, true, true, true, true, true, true, true, false] hS ?_
          refine takeE 13 (some 12) #[true, true, true, true, true, true, true, true, true, true, true, true, true, true] hS ?_
          refine wpAnyH_done (by kernel_rfl) ?_ _
          go_wp2
          go_meet
          case rel =>
            have h4 := LW.step2 HLX.out hS HLW6.out (fun vr h => R_other h (fun k hk => put5_otherZ HZ.out (by have := HZL.out; omega) (.int .i64 t0) (.int .i64 t1) (.int .i64 t2) (.int .i64 t3) (.slice A9 t4.length c9))) HSZX.out HSS.out
            exact ⟨rfl, ⟨_, _, rfl, (by have h0 := HGB.out; first | omega | (simp at h0; omega)), put5_heap HZ.out (.int .i64 t0) (.int .i64 t1) (.int .i64 t2) (.int .i64 t3) (.slice A9 t4.length c9), h4⟩, hS⟩
      case rest =>
      obtain ⟨rfl, ⟨gt, v4, rfl, hgt, hgtb, hlw, hfr⟩, hbe⟩ := hcut
      obtain ⟨WE, hWE⟩ : ∃ W, W = wc := ⟨_, rfl⟩
      subst hWE
      have HBE := Lib.hid hbe
      by_cases he : te = 0
      rotate_left
      · have hde : (te != 0) = true := bne_iff_ne.2 he
        clear hgtb hlw hfr hbe
        go_wp2_with (first | (go_at_call 31; go_loud ((with_reducible refine (HAW.out _).mono ?_); rintro e w6 ⟨rfl, hb6⟩; have HB6 := Lib.hid hb6; clear hb6)))
        go_ret
        exact ⟨rfl, HB1.out.trans ((HBR.out.trans ((HBE.out.trans (HB6.out.mono HBE.out.size)).mono HBR.out.size)).mono HB1.out.size)⟩
      subst he
      have hde : ((0 : Int) != 0) = false := rfl
      obtain ⟨hgk, hiq, hit, hf3t⟩ := HGQ.out rfl
      have HF3T := Lib.hid hf3t
      clear hf3t
      obtain ⟨A9, c9, rfl, hc9, hCt⟩ := hlw.reads
      have hCt : Kd.C k46 WE A9 t4.length t4 := hCt
      have hdif := fun (w : World) (h1 : Kd.C k46 w A6 q.f4.length q.f4) (h2 : Kd.C k46 w A9 t4.length t4) => diff_calls q ⟨t0, t1, t2, t3, t4⟩ hiq.state hit.state A6 A9 c6 c9 w h1 (by rw [HNQ.out]; exact hc6) h2 hc9 (by have := hiq.r.inv.len; omega) (by have := hit.r.inv.len; show t4.length ≤ 400; simp only at this; omega)
      dsimp only at hdif
      have hstp := diff_steps2 hiq hit
      have hdl := diff_len q ⟨t0, t1, t2, t3, t4⟩
      have hql := hiq.r.inv.len
      have htl := hit.r.inv.len
      simp only at hdl htl
      obtain ⟨D, hD⟩ : ∃ D, diffP q ⟨t0, t1, t2, t3, t4⟩ = D := ⟨_, rfl⟩
      rw [hD] at hdif hstp hdl
      rw [HNQ.out] at hdif hdl hql
      have hdj2 : ∀ k, (Value.slice A9 t4.length c9).ownBlock = some k → (Value.slice A8 nl c8).ownBlock ≠ some k := by
        intro k hk
        rcases hfr with e | e
        · rw [e, HNQ.out] at hk
          exact HDJ.out k hk
        · intro h9
          have h1 := e k hk
          have h2 := (own_lt50 HRL.out h9).2
          omega
      have HRL2 := Lib.hid (Kd.R_below HRL.out hbe)
      have HLW2 := Lib.hid hlw
      have HDIF := Lib.hid hdif
      have HSTP := Lib.hid hstp
      have HDJ2 := Lib.hid hdj2
      have HIT := Lib.hid hit
      have HGK := Lib.hid hgk
      have HGT := Lib.hid hgtb
      have HCT := Lib.hid hCt
      have HCQ2 := Lib.hid (Kd.C_below HCq.out hbe)
      have hs2 := blk_below HGS.out hbe
      have s0_ : WE.cell? ⟨WC.heap.size, 0, none⟩ = some (.int .i64 q.f0) := (blk_cell hs2 0).trans rfl
      have s1_ : WE.cell? ⟨WC.heap.size, 1, none⟩ = some (.int .i64 q.f1) := (blk_cell hs2 1).trans rfl
      have s2_ : WE.cell? ⟨WC.heap.size, 2, none⟩ = some (.int .i64 q.f2) := (blk_cell hs2 2).trans rfl
      have s3_ : WE.cell? ⟨WC.heap.size, 3, none⟩ = some (.int .i64 q.f3) := (blk_cell hs2 3).trans rfl
      have s4_ : WE.cell? ⟨WC.heap.size, 4, none⟩ = some (.slice A6 nq c6) := (blk_cell hs2 4).trans rfl
      have p0_ : WE.cell? ⟨gt, 0, none⟩ = some (.int .i64 t0) := (blk_cell hgtb 0).trans rfl
      have p1_ : WE.cell? ⟨gt, 1, none⟩ = some (.int .i64 t1) := (blk_cell hgtb 1).trans rfl
      have p2_ : WE.cell? ⟨gt, 2, none⟩ = some (.int .i64 t2) := (blk_cell hgtb 2).trans rfl
      have p3_ : WE.cell? ⟨gt, 3, none⟩ = some (.int .i64 t3) := (blk_cell hgtb 3).trans rfl
      have p4_ : WE.cell? ⟨gt, 4, none⟩ = some (.slice A9 t4.length c9) := (blk_cell hgtb 4).trans rfl
      have HSQ := Lib.hid hs2
      have HGTL := Lib.hid hgt
      clear hlw hfr hbe hgtb hdif hstp hdj2 hit hgk hCt hs2 hD hiq hgt
      go_upto_region 11 with (first | (go_at_call 33; go_loud ((with_reducible refine (HDIF.out _ HCQ2.out HCT.out).mono ?_); rintro e w5 ⟨v5, rfl, hR5, hb5⟩; obtain ⟨A5, c5, rfl, hc5, _⟩ := Kd.R_reads hR5; have HR5 := Lib.hid hR5; have HB5 := Lib.hid hb5; have HR5L := Lib.hid (Kd.R_below HRL2.out hb5); have HB5A := Lib.hid (HBR.out.trans ((HBE.out.trans (hb5.mono HBE.out.size)).mono HBR.out.size)); clear hR5 hb5)) | ((with_reducible refine gate_builtin (b := .append) (xs := #[.tmp 43, .tmp 46]) rfl ?_); (try (refine gate_guard (by rfl) ?_; dsimp only)); at_builtin; go_loud (refine Kd.R_append_rows k50 (w0 := WC) WC.heap.size rfl (.tmp 43) (.tmp 46) 24 50 (.agg #[(.int .i64 0), (.int .i64 0), (.string ⟨#[]⟩)]) 32 rfl Try.underlying24 info50 rfl (by decide) (by omega) (.slice A8 nl c8) log D _ _ _ (fun k => WC.heap.size < k) (fun _ => False) rfl rfl HR5L.out (Kd.R_reads' HR5.out).2.2 (fun _ _ h => by obtain rfl := k50_open h; exact k50_mkM _ _ _ _) (fun _ h => h.elim) (fun k hk => by have h1 := HSZX.out; have h2 := HBE.out.size; have h3 := HB5.out.size; omega) HB5A.out HB5A.out.size ?aL ?_; (case aL => have h1 := HNL.out; omega); intro v8 w8 hR8 hb8 hg8 hat8; have HR8 := Lib.hid hR8; have HB8 := Lib.hid hb8; have HG8 := Lib.hid hg8; have HAT8 := Lib.hid hat8; clear hR8 hb8 hg8 hat8)))
      have hne : ∀ b, (b = WC.heap.size ∨ b = gt) → some b ≠ (Value.slice A8 nl c8).ownBlock := by
        intro b hb h
        have h1 := own_lt50 HRL.out h.symm
        have h2 : WC.heap.size < b := HRL.out.1 b h.symm
        have h3 := HGTL.out
        rcases hb with rfl | rfl <;> omega
      have hq8 := blk_grown (blk_below HSQ.out HB5.out) HG8.out (hne _ (.inl rfl))
      have ht8 := blk_grown (blk_below HGT.out HB5.out) HG8.out (hne _ (.inr rfl))
      obtain ⟨A8n, c8n, rfl, hc8n, _⟩ := Kd.R_reads HR8.out
      clear s0_ s1_ s2_ s3_ s4_ p0_ p1_ p2_ p3_ p4_
      have z0 : w8.cell? ⟨WC.heap.size, 0, none⟩ = some (.int .i64 q.f0) := (blk_cell hq8 0).trans rfl
      have z1 : w8.cell? ⟨WC.heap.size, 1, none⟩ = some (.int .i64 q.f1) := (blk_cell hq8 1).trans rfl
      have z2 : w8.cell? ⟨WC.heap.size, 2, none⟩ = some (.int .i64 q.f2) := (blk_cell hq8 2).trans rfl
      have z3 : w8.cell? ⟨WC.heap.size, 3, none⟩ = some (.int .i64 q.f3) := (blk_cell hq8 3).trans rfl
      have z4 : w8.cell? ⟨WC.heap.size, 4, none⟩ = some (.slice A6 nq c6) := (blk_cell hq8 4).trans rfl
      have x0 : w8.cell? ⟨gt, 0, none⟩ = some (.int .i64 t0) := (blk_cell ht8 0).trans rfl
      have x1 : w8.cell? ⟨gt, 1, none⟩ = some (.int .i64 t1) := (blk_cell ht8 1).trans rfl
      have x2 : w8.cell? ⟨gt, 2, none⟩ = some (.int .i64 t2) := (blk_cell ht8 2).trans rfl
      have x3 : w8.cell? ⟨gt, 3, none⟩ = some (.int .i64 t3) := (blk_cell ht8 3).trans rfl
      have x4 : w8.cell? ⟨gt, 4, none⟩ = some (.slice A9 t4.length c9) := (blk_cell ht8 4).trans rfl
      have y0 := blk_frozen hq8 0
      have y1 := blk_frozen hq8 1
      have y2 := blk_frozen hq8 2
      have y3 := blk_frozen hq8 3
      have y4 := blk_frozen hq8 4
      have HQ8 := Lib.hid hq8
      have HT8 := Lib.hid ht8
      have hCR2 := HCR0.out
      obtain ⟨ad, had, _⟩ := hCR2.2.2 (by omega)
      have HADR := Lib.hid had
      have hb_ : (0 : Int) ≤ (k : Int) ∧ (k : Int) ≤ (nR : Int) ∧ (k : Int) ≤ (c1 : Int) ∧ (nR : Int) ≤ (c1 : Int) := by omega
      have hcut : k50.C WC (if c1 = k then A1 else A1.map (·.add (k * 3))) (R.drop k).length (R.drop k) := Kd.C_drop (show k50.C WC A1 R.length R by rw [HNR.out]; exact HCR0.out) (by rw [HNR.out]; exact hkn) (by rw [HNR.out]; exact hc1)
      have HCUT := Lib.hid hcut
      clear hq8 ht8 hne hCR2 had hcut
      go_wp2
      · go_roundg gk
        case measure => omega
        case rel =>
          have hln : (R.drop k).length = nR - k := by rw [List.length_drop, HNR.out]
          have hcu := HCUT.out
          rw [if_pos h] at hcu
          have hnl2 : (log ++ D).length = nl + D.length := by rw [List.length_append, HNL.out]
          have hrl : Kd.R k50 50 (put5 w8 WC.heap.size (.int .i64 t0) (.int .i64 t1) (.int .i64 t2) (.int .i64 t3) (.slice A9 t4.length c9)) WC.heap.size (fun k => WC.heap.size < k) (.slice A8n (log ++ D).length c8n) (log ++ D) := R_other50r HR8.out (fun k hk => ⟨HR8.out.1 k hk, put5_other (by have h1 : WC.heap.size < k := HR8.out.1 k hk; omega) (.int .i64 t0) (.int .i64 t1) (.int .i64 t2) (.int .i64 t3) (.slice A9 t4.length c9)⟩)
          have hlw5 := HLW2.out.below HB5.out (Nat.le_trans HBR.out.size HBE.out.size)
          have hlw8 := (hlw5.keep HB8.out HG8.out (fun k hk _ => HDJ2.out k hk)).put5 WC.heap.size (Nat.le_refl _) (by omega) (.int .i64 t0) (.int .i64 t1) (.int .i64 t2) (.int .i64 t3) (.slice A9 t4.length c9)
          have hdj8 : ∀ k', (Value.slice A9 t4.length c9).ownBlock = some k' → (Value.slice A8n (log ++ D).length c8n).ownBlock ≠ some k' := by
            intro k' hk' h2
            rcases HAT8.out with e | ⟨b, e, hb⟩
            · rw [e] at h2
              exact HDJ2.out k' hk' h2
            · rw [e] at h2
              have hbk : b = k' := Option.some.inj h2
              have h0 := Nat.le_trans HSZX.out (Nat.le_trans HBE.out.size HB5.out.size)
              rcases hlw5.lt k' hk' (by omega) with h4 | h4
              · omega
              · rw [h4] at hk'
                cases hk'
          rw [List.length_append] at hrl hdj8
          exact ⟨R.drop k, ⟨t0, t1, t2, t3, t4⟩, log ++ D, A1, A9, c1 - k, c9, by rw [hln, show c1 - k = 0 by omega], by omega, by omega, hcu, ⟨fun _ => HIT.out, (fun h => absurd (HGK.out.symm.trans h) (by decide))⟩, (fun h => absurd (HGK.out.symm.trans h) (by decide)), by rw [hln]; have h1 := HF3T.out; show t3 + _ ≤ 150; omega, steps_app log D s0 q _ HST.out HSTP.out, by omega, put5_heap HQ8.out (.int .i64 t0) (.int .i64 t1) (.int .i64 t2) (.int .i64 t3) (.slice A9 t4.length c9), hlw8, hrl, hdj8, put5_below HB8.out (Nat.le_refl _) (.int .i64 t0) (.int .i64 t1) (.int .i64 t2) (.int .i64 t3) (.slice A9 t4.length c9)⟩
      · go_roundg gk
        case measure => omega
        case rel =>
          have hln : (R.drop k).length = nR - k := by rw [List.length_drop, HNR.out]
          have hcu := HCUT.out
          rw [if_neg h] at hcu
          have hnl2 : (log ++ D).length = nl + D.length := by rw [List.length_append, HNL.out]
          have hrl : Kd.R k50 50 (put5 w8 WC.heap.size (.int .i64 t0) (.int .i64 t1) (.int .i64 t2) (.int .i64 t3) (.slice A9 t4.length c9)) WC.heap.size (fun k => WC.heap.size < k) (.slice A8n (log ++ D).length c8n) (log ++ D) := R_other50r HR8.out (fun k hk => ⟨HR8.out.1 k hk, put5_other (by have h1 : WC.heap.size < k := HR8.out.1 k hk; omega) (.int .i64 t0) (.int .i64 t1) (.int .i64 t2) (.int .i64 t3) (.slice A9 t4.length c9)⟩)
          have hlw5 := HLW2.out.below HB5.out (Nat.le_trans HBR.out.size HBE.out.size)
          have hlw8 := (hlw5.keep HB8.out HG8.out (fun k hk _ => HDJ2.out k hk)).put5 WC.heap.size (Nat.le_refl _) (by omega) (.int .i64 t0) (.int .i64 t1) (.int .i64 t2) (.int .i64 t3) (.slice A9 t4.length c9)
          have hdj8 : ∀ k', (Value.slice A9 t4.length c9).ownBlock = some k' → (Value.slice A8n (log ++ D).length c8n).ownBlock ≠ some k' := by
            intro k' hk' h2
            rcases HAT8.out with e | ⟨b, e, hb⟩
            · rw [e] at h2
              exact HDJ2.out k' hk' h2
            · rw [e] at h2
              have hbk : b = k' := Option.some.inj h2
              have h0 := Nat.le_trans HSZX.out (Nat.le_trans HBE.out.size HB5.out.size)
              rcases hlw5.lt k' hk' (by omega) with h4 | h4
              · omega
              · rw [h4] at hk'
                cases hk'
          rw [List.length_append] at hrl hdj8
          exact ⟨R.drop k, ⟨t0, t1, t2, t3, t4⟩, log ++ D, (A1.map (fun x => x.add (k * 3))), A9, c1 - k, c9, by rw [hln], by omega, by omega, hcu, ⟨fun _ => HIT.out, (fun h => absurd (HGK.out.symm.trans h) (by decide))⟩, (fun h => absurd (HGK.out.symm.trans h) (by decide)), by rw [hln]; have h1 := HF3T.out; show t3 + _ ≤ 150; omega, steps_app log D s0 q _ HST.out HSTP.out, by omega, put5_heap HQ8.out (.int .i64 t0) (.int .i64 t1) (.int .i64 t2) (.int .i64 t3) (.slice A9 t4.length c9), hlw8, hrl, hdj8, put5_below HB8.out (Nat.le_refl _) (.int .i64 t0) (.int .i64 t1) (.int .i64 t2) (.int .i64 t3) (.slice A9 t4.length c9)⟩
end Go.Proofs.Ytgipepjpkmlmaaa.P
