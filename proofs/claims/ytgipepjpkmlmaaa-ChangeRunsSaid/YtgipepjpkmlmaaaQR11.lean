import Derived.Test.YtgipepjpkmlmaaaQR2
import Derived.Test.YtgipepjpkmlmaaaQR3
import Derived.Test.YtgipepjpkmlmaaaQR4
import Derived.Test.YtgipepjpkmlmaaaQR6
import Derived.Test.YtgipepjpkmlmaaaQR8
namespace Go.Proofs.Ytgipepjpkmlmaaa.P
open Go.RowKit Go.Proofs.YtgipepjpkmlmaaaW.PrintWords Go.Proofs.YtgipepjpkmlmaaaW.PrintLast Go.Proofs.YtgipepjpkmlmaaaW.PrintMore
set_option linter.unusedVariables false
set_option linter.unusedSimpArgs false
set_option maxHeartbeats 16000000 in
set_option maxRecDepth 100000 in
theorem mayR_no (g : S23) (s : S28) (hg : chkG g = false) (A : Option Addr) (c : Nat) (w : World) :
    Calls Try.prog 35 #[gridV g, .agg #[.int .i64 s.f0, .int .i64 s.f1, .int .i64 s.f2, .int .i64 s.f3, .slice A s.f4.length c]] w fun e w' => e = .returned (.bool false) ∧ Below w.heap.size w w' := by
  have hu28 := Try.underlying28
  obtain ⟨WB, hWB⟩ : ∃ W, W = (w.alloc (.cells #[.int .i64 g.f0, .int .i64 g.f1, .int .i64 g.f2] 23)).alloc (.cells #[.int .i64 s.f0, .int .i64 s.f1, .int .i64 s.f2, .int .i64 s.f3, .slice A s.f4.length c] 28) := ⟨_, rfl⟩
  have hbB : Below w.heap.size w WB := by rw [hWB]; exact below_alloc (below_alloc (Below.refl _ _) _) _
  have HWB := Lib.hid hWB
  have HBB := Lib.hid hbB
  clear hWB hbB
  go_enter Try.func35, Try.ntmps35
  go_wp2_with (first | (go_at_call 24; go_loud (rw [← HWB.out]; (with_reducible refine (may14_no g hg _).mono ?_); rintro e w1 ⟨rfl, hb1⟩; have HB1 := Lib.hid hb1; clear hb1)))
  go_ret
  exact ⟨rfl, HBB.out.trans (HB1.out.mono HBB.out.size)⟩
set_option maxHeartbeats 16000000 in
set_option maxRecDepth 100000 in
theorem mayR_calls (g : S23) (s : S28) (hi : Inv g s) (A : Option Addr) (c : Nat) (w : World) (hr : k46.C w A s.f4.length s.f4) (hc : s.f4.length ≤ c) :
    Calls Try.prog 35 #[gridV g, .agg #[.int .i64 s.f0, .int .i64 s.f1, .int .i64 s.f2, .int .i64 s.f3, .slice A s.f4.length c]] w fun e w' => e = .returned (.bool true) ∧ Below w.heap.size w w' := by
  have hu28 := Try.underlying28
  have hu23 := Try.underlying23
  obtain ⟨WB, hWB⟩ : ∃ W, W = (w.alloc (.cells #[.int .i64 g.f0, .int .i64 g.f1, .int .i64 g.f2] 23)).alloc (.cells #[.int .i64 s.f0, .int .i64 s.f1, .int .i64 s.f2, .int .i64 s.f3, .slice A s.f4.length c] 28) := ⟨_, rfl⟩
  have hgB : WB.heap[w.heap.size]? = some (.cells #[.int .i64 g.f0, .int .i64 g.f1, .int .i64 g.f2] 23 (0, 0)) := by
    rw [hWB, Below.heap_alloc _ _ _ (by simp)]
    exact heap_alloc_new _ _
  have hsB : WB.heap[w.heap.size + 1]? = some (.cells #[.int .i64 s.f0, .int .i64 s.f1, .int .i64 s.f2, .int .i64 s.f3, .slice A s.f4.length c] 28 (0, 0)) := by
    have h := heap_alloc_new (w.alloc (.cells #[.int .i64 g.f0, .int .i64 g.f1, .int .i64 g.f2] 23)) (.cells #[.int .i64 s.f0, .int .i64 s.f1, .int .i64 s.f2, .int .i64 s.f3, .slice A s.f4.length c] 28)
    rw [hWB]
    simpa using h
  have hbB : Below w.heap.size w WB := by rw [hWB]; exact below_alloc (below_alloc (Below.refl _ _) _) _
  obtain ⟨hgrid, hn0, hn1, hlate, hbad, hlb, hmark, hlen, hord, heach, hop⟩ := hi
  have HWB := Lib.hid hWB
  have HGB := Lib.hid hgB
  have HSB := Lib.hid hsB
  have HBB := Lib.hid hbB
  have HCW := Lib.hid (Kd.C_below hr hbB)
  have HGR := Lib.hid hgrid
  have HORD := Lib.hid hord
  have HEA := Lib.hid heach
  have HOP := Lib.hid hop
  have hmk : -1 ≤ s.f0 ∧ s.f0 ≤ 1099511627776 := by omega
  have HMK := Lib.hid hmk
  have i1 : inB s.f1 = true := inB_of hlate (by omega)
  have i2 : inB s.f2 = true := inB_of hbad (by omega)
  have i3 : inB s.f3 = true := inB_of hn0 (by omega)
  have i0 : s.f0 ≠ -1 → inB s.f0 = true := fun h => inB_of (by omega) (by omega)
  have wl : wrap64 (s.f1 + s.f2) = s.f1 + s.f2 := by unfold wrap64; omega
  have dl : decide (s.f3 < s.f1 + s.f2) = false := decide_eq_false (by omega)
  have d64 : decide ((64 : Int) < (s.f4.length : Int)) = false := decide_eq_false (by omega)
  clear hWB hgB hsB hbB hgrid hord heach hop hr hmk hn0 hn1 hlate hbad hlb hmark
  go_enter Try.func35, Try.ntmps35
  go_upto_region 1 with fail
  rw [← HWB.out]
  have q0 : WB.cell? ⟨w.heap.size, 0, none⟩ = some (.int .i64 g.f0) := (blk_cell HGB.out 0).trans rfl
  have q1 : WB.cell? ⟨w.heap.size, 1, none⟩ = some (.int .i64 g.f1) := (blk_cell HGB.out 1).trans rfl
  have q2 : WB.cell? ⟨w.heap.size, 2, none⟩ = some (.int .i64 g.f2) := (blk_cell HGB.out 2).trans rfl
  go_cut [54] from 7 to 53 (fun v54 wc => v54 = .bool false ∧ Below WB.heap.size WB wc)
  case first =>
    by_cases hm1 : s.f0 = -1
    · have dm : (s.f0 == -1) = true := beq_iff_eq.2 hm1
      have dm2 : (s.f0 = -1) = True := eq_true hm1
      clear hm1
      go_wp2_with (first | (go_at_call 24; go_loud ((with_reducible refine (may14_yes g HGR.out _).mono ?_); rintro e w1 ⟨rfl, hb1⟩; have hs1 := blk_below HSB.out hb1; have s0_ : w1.cell? ⟨w.heap.size + 1, 0, none⟩ = some (.int .i64 s.f0) := (blk_cell hs1 0).trans rfl; have s1_ : w1.cell? ⟨w.heap.size + 1, 1, none⟩ = some (.int .i64 s.f1) := (blk_cell hs1 1).trans rfl; have s2_ : w1.cell? ⟨w.heap.size + 1, 2, none⟩ = some (.int .i64 s.f2) := (blk_cell hs1 2).trans rfl; have s3_ : w1.cell? ⟨w.heap.size + 1, 3, none⟩ = some (.int .i64 s.f3) := (blk_cell hs1 3).trans rfl; have s4_ : w1.cell? ⟨w.heap.size + 1, 4, none⟩ = some (.slice A s.f4.length c) := (blk_cell hs1 4).trans rfl; have HB1 := Lib.hid hb1; clear hs1 hb1)) | (go_at_call 66; go_loud ((with_reducible refine (inR_calls _ _).mono ?_); rintro e w' ⟨rfl, rfl⟩)))
      go_meet
      case rel => exact ⟨rfl, HB1.out⟩
    · have dm : (s.f0 == -1) = false := beq_eq_false_iff_ne.2 hm1
      have i0' := i0 hm1
      go_wp2_with (first | (go_at_call 24; go_loud ((with_reducible refine (may14_yes g HGR.out _).mono ?_); rintro e w1 ⟨rfl, hb1⟩; have hs1 := blk_below HSB.out hb1; have s0_ : w1.cell? ⟨w.heap.size + 1, 0, none⟩ = some (.int .i64 s.f0) := (blk_cell hs1 0).trans rfl; have s1_ : w1.cell? ⟨w.heap.size + 1, 1, none⟩ = some (.int .i64 s.f1) := (blk_cell hs1 1).trans rfl; have s2_ : w1.cell? ⟨w.heap.size + 1, 2, none⟩ = some (.int .i64 s.f2) := (blk_cell hs1 2).trans rfl; have s3_ : w1.cell? ⟨w.heap.size + 1, 3, none⟩ = some (.int .i64 s.f3) := (blk_cell hs1 3).trans rfl; have s4_ : w1.cell? ⟨w.heap.size + 1, 4, none⟩ = some (.slice A s.f4.length c) := (blk_cell hs1 4).trans rfl; have HB1 := Lib.hid hb1; clear hs1 hb1)) | (go_at_call 66; go_loud ((with_reducible refine (inR_calls _ _).mono ?_); rintro e w' ⟨rfl, rfl⟩)))
      go_meet
      case rel => exact ⟨rfl, HB1.out⟩
  case rest =>
    obtain ⟨rfl, hb0⟩ := hcut
    obtain ⟨W0, hW0⟩ : ∃ W, W = wc := ⟨_, rfl⟩
    subst hW0
    have HG0 := Lib.hid (blk_below HGB.out hb0)
    have HS0 := Lib.hid (blk_below HSB.out hb0)
    have HC0 := Lib.hid (Kd.C_below HCW.out hb0)
    have HB0 := Lib.hid (HBB.out.trans (hb0.mono HBB.out.size))
    clear q0 q1 q2 hb0 i0 i1 i2 i3 wl dl d64
    go_wp2
    go_loopg [5] s.f4.length (fun kq v5 WX => ∃ (i : Nat), v5 = .int .i64 (i : Int) ∧ i ≤ s.f4.length ∧ s.f4.length - i ≤ kq ∧ Below W0.heap.size W0 WX)
    case atStart => exact ⟨0, rfl, Nat.zero_le _, by omega, Below.refl _ _⟩
    case round =>
      obtain ⟨i, rfl, hil, hik, hbr⟩ := hrel
      obtain ⟨WX, hWX⟩ : ∃ W, W = wr := ⟨_, rfl⟩
      subst hWX
      have hs0 := blk_below HS0.out hbr
      have s4 : WX.cell? ⟨w.heap.size + 1, 4, none⟩ = some (.slice A s.f4.length c) := (blk_cell hs0 4).trans rfl
      have HBR := Lib.hid hbr
      by_cases hlt : i < s.f4.length
      rotate_left
      · have d1 : decide ((i : Int) < (s.f4.length : Int)) = false := decide_eq_false (by omega)
        go_wp2
        go_ret
        exact ⟨rfl, HB0.out.trans (HBR.out.mono HB0.out.size)⟩
      have d1 : decide ((i : Int) < (s.f4.length : Int)) = true := decide_eq_true (by omega)
      have hbi : (0 : Int) ≤ (i : Int) ∧ (i : Int) < (s.f4.length : Int) := by omega
      have hwi : IntKind.i64.wrap ((i : Int) + 1) = (i : Int) + 1 := by rw [IntKind.wrap_i64]; omega
      obtain ⟨ad, had, x0, x1, x2, x3, x4, x5, x6, x7, x8, x9, x10, x11⟩ := at_T46 (Kd.C_below HC0.out HBR.out) (i : Int) (by omega) (by omega)
      cases had
      rw [Int.toNat_natCast] at x0 x1 x2 x3 x4 x5 x6 x7 x8 x9 x10 x11
      have hmem : rd_T46 s.f4 (i : Int) ∈ s.f4 := by rw [rd_get s.f4 i hlt]; exact List.getElem_mem hlt
      have hw := HEA.out _ hmem
      have ho := HOP.out _ hmem
      obtain ⟨x, hx⟩ : ∃ x, rd_T46 s.f4 (i : Int) = x := ⟨_, rfl⟩
      rw [hx] at x0 x1 x2 x3 x4 x5 x6 x7 x8 x9 x10 x11 hw ho
      have HX := Lib.hid hx
      obtain ⟨hk0, hk1, hs0, hs1, hhop, hle, hagg, hone, _⟩ := hw
      have hg1 : 1 ≤ g.f1 := (chkG_spec HGR.out).2.2.1
      have j0 : inB x.f0 = true := inB_of hk0 (by omega)
      have j1 : inB x.f1 = true := inB_of hs0 hs1
      have e0 : decide (1048576 < x.f0) = false := decide_eq_false (by omega)
      have e1 : (g.f1 == 0) = false := beq_eq_false_iff_ne.2 (by omega)
      have e1b : ¬ g.f1 = 0 := by omega
      have e2 : decide (s.f0 < x.f1) = false := decide_eq_false (by omega)
      have hcl := fun w => closedRef_calls g HGR.out x.f1 s.f0 HMK.out.1 HMK.out.2 w
      rw [ho] at hcl
      have h15 := fun w => may15_calls x.f2 hagg hone w
      have HCL := Lib.hid hcl
      have H15 := Lib.hid h15
      cases gk with
      | zero => omega
      | succ gk =>
      clear hcl h15 ho hk0 hk1 hs1 hle hagg hone hmem hx hg1
      go_upto_region 7 with fail
      obtain ⟨W1, hW1⟩ : ∃ W, W = WX.alloc (.cells #[.int .i64 x.f0, .int .i64 x.f1, .int .i64 x.f2.f0, .int .i64 x.f2.f1, .int .i64 x.f2.f2, .int .i64 x.f2.f3, .int .i64 x.f2.f4.f0, .int .i64 x.f2.f4.f1, .int .i64 x.f2.f4.f2, .int .i64 x.f2.f4.f3, .int .i64 x.f2.f5, .int .i64 x.f2.f6] 46) := ⟨_, rfl⟩
      have hbx : W1.heap[WX.heap.size]? = some (.cells #[.int .i64 x.f0, .int .i64 x.f1, .int .i64 x.f2.f0, .int .i64 x.f2.f1, .int .i64 x.f2.f2, .int .i64 x.f2.f3, .int .i64 x.f2.f4.f0, .int .i64 x.f2.f4.f1, .int .i64 x.f2.f4.f2, .int .i64 x.f2.f4.f3, .int .i64 x.f2.f5, .int .i64 x.f2.f6] 46 (0, 0)) := by rw [hW1]; exact heap_alloc_new _ _
      have hb1 : Below WX.heap.size WX W1 := by rw [hW1]; exact below_alloc (Below.refl _ _) _
      rw [← hW1]
      have hb1' := HBR.out.trans (hb1.mono HBR.out.size)
      have HXB := Lib.hid hbx
      have HB1 := Lib.hid hb1'
      have hsz : WX.heap.size < W1.heap.size := lt_of_block hbx
      clear hW1 hb1 x0 x1 x2 x3 x4 x5 x6 x7 x8 x9 x10 x11 s4
      have x0 : W1.cell? ⟨WX.heap.size, 0, none⟩ = some (.int .i64 x.f0) := (blk_cell hbx 0).trans rfl
      have x1 : W1.cell? ⟨WX.heap.size, 1, none⟩ = some (.int .i64 x.f1) := (blk_cell hbx 1).trans rfl
      have q0 : W1.cell? ⟨w.heap.size, 0, none⟩ = some (.int .i64 g.f0) := (blk_cell (blk_below HG0.out hb1') 0).trans rfl
      have q1 : W1.cell? ⟨w.heap.size, 1, none⟩ = some (.int .i64 g.f1) := (blk_cell (blk_below HG0.out hb1') 1).trans rfl
      have q2 : W1.cell? ⟨w.heap.size, 2, none⟩ = some (.int .i64 g.f2) := (blk_cell (blk_below HG0.out hb1') 2).trans rfl
      have t0 : W1.cell? ⟨w.heap.size + 1, 0, none⟩ = some (.int .i64 s.f0) := (blk_cell (blk_below HS0.out hb1') 0).trans rfl
      clear hbx hb1' hs0
      go_upto_region 9 with (first | (go_at_call 66; go_loud ((with_reducible refine (inR_calls _ _).mono ?_); rintro e w' ⟨rfl, rfl⟩)) | (go_at_call 22; go_loud ((with_reducible refine (HCL.out _).mono ?_); rintro e w2 ⟨rfl, hb2⟩; have hx2 := blk_below HXB.out hb2; have y0 : w2.cell? ⟨WX.heap.size, 0, none⟩ = some (.int .i64 x.f0) := (blk_cell hx2 0).trans rfl; have y1 : w2.cell? ⟨WX.heap.size, 1, none⟩ = some (.int .i64 x.f1) := (blk_cell hx2 1).trans rfl; have y2 : w2.cell? ⟨WX.heap.size, 2, none⟩ = some (.int .i64 x.f2.f0) := (blk_cell hx2 2).trans rfl; have y3 : w2.cell? ⟨WX.heap.size, 3, none⟩ = some (.int .i64 x.f2.f1) := (blk_cell hx2 3).trans rfl; have y4 : w2.cell? ⟨WX.heap.size, 4, none⟩ = some (.int .i64 x.f2.f2) := (blk_cell hx2 4).trans rfl; have y5 : w2.cell? ⟨WX.heap.size, 5, none⟩ = some (.int .i64 x.f2.f3) := (blk_cell hx2 5).trans rfl; have y6 : w2.cell? ⟨WX.heap.size, 6, none⟩ = some (.int .i64 x.f2.f4.f0) := (blk_cell hx2 6).trans rfl; have y7 : w2.cell? ⟨WX.heap.size, 7, none⟩ = some (.int .i64 x.f2.f4.f1) := (blk_cell hx2 7).trans rfl; have y8 : w2.cell? ⟨WX.heap.size, 8, none⟩ = some (.int .i64 x.f2.f4.f2) := (blk_cell hx2 8).trans rfl; have y9 : w2.cell? ⟨WX.heap.size, 9, none⟩ = some (.int .i64 x.f2.f4.f3) := (blk_cell hx2 9).trans rfl; have y10 : w2.cell? ⟨WX.heap.size, 10, none⟩ = some (.int .i64 x.f2.f5) := (blk_cell hx2 10).trans rfl; have y11 : w2.cell? ⟨WX.heap.size, 11, none⟩ = some (.int .i64 x.f2.f6) := (blk_cell hx2 11).trans rfl; have HX2 := Lib.hid hx2; have HB2 := Lib.hid (HB1.out.trans (hb2.mono HB1.out.size)); clear hx2 hb2)) | (go_at_call 67; go_loud ((with_reducible refine (H15.out _).mono ?_); rintro e w3 ⟨rfl, hb3⟩; have hx3 := blk_below HX2.out hb3; have HX3 := Lib.hid hx3; have HB3 := Lib.hid (HB2.out.trans (hb3.mono HB2.out.size)); clear hx3 hb3)))
      obtain ⟨bx, hbx⟩ : ∃ n, n = WX.heap.size := ⟨_, rfl⟩
      have hx3 := HX3.out
      rw [← hbx] at hx3
      rw [← hbx]
      clear hbx
      obtain ⟨WX, hWX⟩ : ∃ W, W = w3 := ⟨_, rfl⟩
      subst hWX
      have HK0 := Lib.hid (show WX.cell? ⟨bx, 0, none⟩ = some (.int .i64 x.f0) from (blk_cell hx3 0).trans rfl)
      have HK1 := Lib.hid (show WX.cell? ⟨bx, 1, none⟩ = some (.int .i64 x.f1) from (blk_cell hx3 1).trans rfl)
      have HK2 := Lib.hid (show WX.cell? ⟨bx, 2, none⟩ = some (.int .i64 x.f2.f0) from (blk_cell hx3 2).trans rfl)
      have HK3 := Lib.hid (show WX.cell? ⟨bx, 3, none⟩ = some (.int .i64 x.f2.f1) from (blk_cell hx3 3).trans rfl)
      have HK4 := Lib.hid (show WX.cell? ⟨bx, 4, none⟩ = some (.int .i64 x.f2.f2) from (blk_cell hx3 4).trans rfl)
      have HK5 := Lib.hid (show WX.cell? ⟨bx, 5, none⟩ = some (.int .i64 x.f2.f3) from (blk_cell hx3 5).trans rfl)
      have HK6 := Lib.hid (show WX.cell? ⟨bx, 6, none⟩ = some (.int .i64 x.f2.f4.f0) from (blk_cell hx3 6).trans rfl)
      have HK7 := Lib.hid (show WX.cell? ⟨bx, 7, none⟩ = some (.int .i64 x.f2.f4.f1) from (blk_cell hx3 7).trans rfl)
      have HK8 := Lib.hid (show WX.cell? ⟨bx, 8, none⟩ = some (.int .i64 x.f2.f4.f2) from (blk_cell hx3 8).trans rfl)
      have HK9 := Lib.hid (show WX.cell? ⟨bx, 9, none⟩ = some (.int .i64 x.f2.f4.f3) from (blk_cell hx3 9).trans rfl)
      have HK10 := Lib.hid (show WX.cell? ⟨bx, 10, none⟩ = some (.int .i64 x.f2.f5) from (blk_cell hx3 10).trans rfl)
      have HK11 := Lib.hid (show WX.cell? ⟨bx, 11, none⟩ = some (.int .i64 x.f2.f6) from (blk_cell hx3 11).trans rfl)
      have HS4b := Lib.hid (show WX.cell? ⟨w.heap.size + 1, 4, none⟩ = some (.slice (some ad) s.f4.length c) from (blk_cell (blk_below HS0.out HB3.out) 4).trans rfl)
      clear hx3
      by_cases hpos : 0 < i
      rotate_left
      · have dp : decide ((0 : Int) < (i : Int)) = false := decide_eq_false (by omega)
        have dp2 : ¬ 0 < i := hpos
        refine wp_region_held_drew (S := fun w_ => Below WX.heap.size WX w_) (by kernel_rfl) (below_drew (Below.refl _ _)) (fun hS_ => ?_)
        have hS : Below WX.heap.size WX _ := hS_
        clear hS_
        change wpAnyH _ _ _ _ _ 13 #[false, false, false, false, false, false, false, false, false, false, false, false, false] _ _
        refine takeE 0 (some 111) #[true, false, false, false, false, false, false, false, false, false, false, false, false] hS ?_
        refine takeE 1 (some 112) #[true, true, false, false, false, false, false, false, false, false, false, false, false] hS ?_
        refine takeE 2 (some 113) #[true, true, true, false, false, false, false, false, false, false, false, false, false] hS ?_
        refine offE 3 (some 114) #[true, true, true, true, false, false, false, false, false, false, false, false, false] hS ?_
        refine offE 4 (some 115) #[true, true, true, true, true, false, false, false, false, false, false, false, false] hS ?_
        refine offE 5 (some 116) #[true, true, true, true, true, true, false, false, false, false, false, false, false] hS ?_
        refine offE 6 (some 117) #[true, true, true, true, true, true, true, false, false, false, false, false, false] hS ?_
        refine offE 7 (some 118) #[true, true, true, true, true, true, true, true, false, false, false, false, false] hS ?_
        refine offE 8 (some 119) #[true, true, true, true, true, true, true, true, true, false, false, false, false] hS ?_
        refine offE 9 (some 120) #[true, true, true, true, true, true, true, true, true, true, false, false, false] hS ?_
        refine offE 10 (some 121) #[true, true, true, true, true, true, true, true, true, true, true, false, false] hS ?_
        refine offE 11 (some 122) #[true, true, true, true, true, true, true, true, true, true, true, true, false] hS ?_
        refine takeE 12 (some 123) #[true, true, true, true, true, true, true, true, true, true, true, true, true] hS ?_
        refine wpAnyH_done (by kernel_rfl) ?_ _
        try go_simp
        have HSS := Lib.hid hS
        clear hS
        go_wp2
        go_roundg gk
        case measure => omega
        case rel => exact ⟨i + 1, by first | rfl | (congr 1), by omega, by omega, HB3.out.trans (HSS.out.mono HB3.out.size)⟩
      · have dp : decide ((0 : Int) < (i : Int)) = true := decide_eq_true (by omega)
        have hwm : IntKind.i64.wrap ((i : Int) - 1) = (i : Int) - 1 := by rw [IntKind.wrap_i64]; omega
        have hbm1 : (1 : Int) ≤ (i : Int) := by omega
        have hbm : (0 : Int) ≤ (i : Int) - 1 ∧ (i : Int) - 1 < (s.f4.length : Int) := by omega
        obtain ⟨ad2, had2, p0, p1, p2, p3, p4, p5, p6, p7, p8, p9, p10, p11⟩ := at_T46 (Kd.C_below HC0.out HB3.out) ((i : Int) - 1) (by omega) (by omega)
        cases had2
        rw [show ((i : Int) - 1).toNat = i - 1 by omega] at p0 p1 p2 p3 p4 p5 p6 p7 p8 p9 p10 p11
        have hlt2 := HORD.out (i - 1) i (by omega) hlt
        rw [HX.out, show (((i - 1 : Nat)) : Int) = (i : Int) - 1 by omega] at hlt2
        obtain ⟨p, hp⟩ : ∃ p, rd_T46 s.f4 ((i : Int) - 1) = p := ⟨_, rfl⟩
        rw [hp] at p0 p1 p2 p3 p4 p5 p6 p7 p8 p9 p10 p11 hlt2
        have hah := fun w => aheadR_calls p x w
        rw [(aheadB_iff p x).2 hlt2] at hah
        have HAH := Lib.hid hah
        have HP0 := Lib.hid p0
        have HP1 := Lib.hid p1
        have HP2 := Lib.hid p2
        have HP3 := Lib.hid p3
        have HP4 := Lib.hid p4
        have HP5 := Lib.hid p5
        have HP6 := Lib.hid p6
        have HP7 := Lib.hid p7
        have HP8 := Lib.hid p8
        have HP9 := Lib.hid p9
        have HP10 := Lib.hid p10
        have HP11 := Lib.hid p11
        clear hah hp hlt2 p0 p1 p2 p3 p4 p5 p6 p7 p8 p9 p10 p11
        refine wp_region_held_drew (S := fun w_ => Below WX.heap.size WX w_) (by kernel_rfl) (below_drew (Below.refl _ _)) (fun hS_ => ?_)
        have hS : Below WX.heap.size WX _ := hS_
        clear hS_
        change wpAnyH _ _ _ _ _ 13 #[false, false, false, false, false, false, false, false, false, false, false, false, false] _ _
        refine takeE 0 (some 111) #[true, false, false, false, false, false, false, false, false, false, false, false, false] hS ?_
        refine takeE 1 (some 112) #[true, true, false, false, false, false, false, false, false, false, false, false, false] hS ?_
        refine takeE 2 (some 113) #[true, true, true, false, false, false, false, false, false, false, false, false, false] hS ?_
        refine takeE 3 (some 114) #[true, true, true, true, false, false, false, false, false, false, false, false, false] hS ?_
        refine takeE 4 (some 115) #[true, true, true, true, true, false, false, false, false, false, false, false, false] hS ?_ (hy := fun w_ hS_ => by (replace hS_ : Below WX.heap.size WX w_ := hS_); have a_ := below_cell hS_ HS4b.out; go_simp <;> with_reducible rfl)
        refine takeE 5 (some 116) #[true, true, true, true, true, true, false, false, false, false, false, false, false] hS ?_
        refine takeE 6 (some 117) #[true, true, true, true, true, true, true, false, false, false, false, false, false] hS ?_
        refine takeE 7 (some 118) #[true, true, true, true, true, true, true, true, false, false, false, false, false] hS ?_
        refine takeE 8 (some 119) #[true, true, true, true, true, true, true, true, true, false, false, false, false] hS ?_ (hy := fun w_ hS_ => by (replace hS_ : Below WX.heap.size WX w_ := hS_); have x0_ := below_cell hS_ HP0.out; have x1_ := below_cell hS_ HP1.out; have x2_ := below_cell hS_ HP2.out; have x3_ := below_cell hS_ HP3.out; have x4_ := below_cell hS_ HP4.out; have x5_ := below_cell hS_ HP5.out; have x6_ := below_cell hS_ HP6.out; have x7_ := below_cell hS_ HP7.out; have x8_ := below_cell hS_ HP8.out; have x9_ := below_cell hS_ HP9.out; have x10_ := below_cell hS_ HP10.out; have x11_ := below_cell hS_ HP11.out; go_simp <;> with_reducible rfl)
        refine takeE 9 (some 120) #[true, true, true, true, true, true, true, true, true, true, false, false, false] hS ?_ (hy := fun w_ hS_ => by (replace hS_ : Below WX.heap.size WX w_ := hS_); have y0_ := below_cell hS_ HK0.out; have y1_ := below_cell hS_ HK1.out; have y2_ := below_cell hS_ HK2.out; have y3_ := below_cell hS_ HK3.out; have y4_ := below_cell hS_ HK4.out; have y5_ := below_cell hS_ HK5.out; have y6_ := below_cell hS_ HK6.out; have y7_ := below_cell hS_ HK7.out; have y8_ := below_cell hS_ HK8.out; have y9_ := below_cell hS_ HK9.out; have y10_ := below_cell hS_ HK10.out; have y11_ := below_cell hS_ HK11.out; go_simp <;> with_reducible rfl)
        refine doD (i := 10) (ls2 := #[true, true, true, true, true, true, true, true, true, true, true, false, false]) (by kernel_rfl) rfl (by kernel_rfl) (by kernel_rfl) (fun K hK => ?_)
        go_simp
        go_wp2_with (first | (go_at_call 64; go_loud ((with_reducible refine (HAH.out _).mono ?_); rintro e w6 ⟨rfl, hb6⟩)))
        refine hK.out _ _ ?_ (fun hS_ => ?_)
        · show Below WX.heap.size WX _
          exact hS.trans (hb6.mono hS.size)
        clear hK K hS hb6
        have hS : Below WX.heap.size WX _ := hS_
        clear hS_
        refine takeE 11 (some 122) #[true, true, true, true, true, true, true, true, true, true, true, true, false] hS ?_
        refine takeE 12 (some 123) #[true, true, true, true, true, true, true, true, true, true, true, true, true] hS ?_
        refine wpAnyH_done (by kernel_rfl) ?_ _
        try go_simp
        have HSS := Lib.hid hS
        clear hS
        go_wp2
        go_roundg gk
        case measure => omega
        case rel => exact ⟨i + 1, by first | rfl | (congr 1), by omega, by omega, HB3.out.trans (HSS.out.mono HB3.out.size)⟩
end Go.Proofs.Ytgipepjpkmlmaaa.P
