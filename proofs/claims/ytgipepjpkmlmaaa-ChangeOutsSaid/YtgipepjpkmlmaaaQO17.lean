import Derived.Test.YtgipepjpkmlmaaaQO1
import Derived.Test.YtgipepjpkmlmaaaQO2
import Derived.Test.YtgipepjpkmlmaaaQO3
import Derived.Test.YtgipepjpkmlmaaaQO4
import Derived.Test.YtgipepjpkmlmaaaQO5
import Derived.Test.YtgipepjpkmlmaaaQO6
import Derived.Test.YtgipepjpkmlmaaaQO7
import Derived.Test.YtgipepjpkmlmaaaQO8
import Derived.Test.YtgipepjpkmlmaaaQO9
import Derived.Test.YtgipepjpkmlmaaaQO10
import Derived.Test.YtgipepjpkmlmaaaQO12
import Derived.Test.YtgipepjpkmlmaaaQO13
import Derived.Test.YtgipepjpkmlmaaaQO15
namespace Go.Proofs.Ytgipepjpkmlmaaa.P
open Go.RowKit Go.Proofs.YtgipepjpkmlmaaaW.PrintWords Go.Proofs.YtgipepjpkmlmaaaW.PrintLast Go.Proofs.YtgipepjpkmlmaaaW.PrintMore
set_option linter.unusedVariables false
set_option linter.unusedSimpArgs false
set_option maxHeartbeats 16000000 in
set_option maxRecDepth 100000 in
theorem apply1_calls (s : S28) (r : S50) (rest : ByteArray) (i : Nat) (a : S44) (ha : aggR a) (hok : aggOk a = true) (hdr : rest = numsT (aggL a)) (hisq : isP s.f4 ⟨r.f0, r.f1, z44⟩ i = false) (A : Option Addr) (c : Nat) (w : World) (hra : Kd.C k46 w A s.f4.length s.f4) (hca : s.f4.length ≤ c) (hla : s.f4.length ≤ 1000)
    (htk : tkL r.f2 11 0 0 = (1, rest, 0)) (hrs : r.f2.size ≤ 1000000) (hpl : placeOk s.f4 ⟨r.f0, r.f1, z44⟩ i) :
    Calls Try.prog 36 #[.agg #[.int .i64 s.f0, .int .i64 s.f1, .int .i64 s.f2, .int .i64 s.f3, .slice A s.f4.length c], .agg #[.int .i64 r.f0, .int .i64 r.f1, .string r.f2]] w fun e w' => ∃ (A' : Option Addr) (c' : Nat), e = .returned (.tuple #[stV (⟨s.f0, s.f1, s.f2, s.f3, s.f4.take i ++ ⟨r.f0, r.f1, a⟩ :: s.f4.drop i⟩ : S28) A' c', .int .i64 0]) ∧ Kd.R k46 46 w' w.heap.size (fun _ => True) (.slice A' ((⟨s.f0, s.f1, s.f2, s.f3, s.f4.take i ++ ⟨r.f0, r.f1, a⟩ :: s.f4.drop i⟩ : S28)).f4.length c') ((⟨s.f0, s.f1, s.f2, s.f3, s.f4.take i ++ ⟨r.f0, r.f1, a⟩ :: s.f4.drop i⟩ : S28)).f4 ∧ Below w.heap.size w w' := by
  have hvt := fun w => vtake_calls r.f2 w (by omega)
  rw [htk] at hvt
  have hrest : rest.size ≤ 1000000 := by have h := tk_size r.f2 11 0 0; rw [htk] at h; exact Nat.le_trans h hrs
  have HREST := Lib.hid hrest
  have hdec := fun w => decode_calls a ha hok w
  rw [← hdr] at hdec
  have HDEC := Lib.hid hdec
  have HISQ := Lib.hid hisq
  clear hdec hisq hdr ha hok
  clear hrest htk hrs
  obtain ⟨hp1, hp2, hp3⟩ := hpl
  have HP2 := Lib.hid hp2
  have HP3 := Lib.hid hp3
  have HP1 := Lib.hid hp1
  have hil : i ≤ 1000 := by omega
  clear hp2 hp3 hp1
  obtain ⟨is, his⟩ : ∃ q, isP s.f4 ⟨r.f0, r.f1, z44⟩ i = q := ⟨_, rfl⟩
  have HIS := Lib.hid his
  clear his
  obtain ⟨n, hn⟩ : ∃ n, s.f4.length = n := ⟨_, rfl⟩
  rw [hn] at hra hca hla ⊢
  have HN := Lib.hid hn
  have HRA := Lib.hid hra
  have HVT := Lib.hid hvt
  clear hn hra hvt
  obtain ⟨W3, hW3⟩ : ∃ W, W = ((w.alloc (.cells #[.int .i64 s.f0, .int .i64 s.f1, .int .i64 s.f2, .int .i64 s.f3, .slice A n c] 28)).alloc (.cells #[.int .i64 r.f0, .int .i64 r.f1, .string r.f2] 50)).alloc (.cells #[.int .i64 0, .int .i64 0, .int .i64 0, .int .i64 0, .slice none 0 0] 28) := ⟨_, rfl⟩
  have h0 : W3.heap[w.heap.size]? = some (.cells #[.int .i64 s.f0, .int .i64 s.f1, .int .i64 s.f2, .int .i64 s.f3, .slice A n c] 28 (0, 0)) := by
    rw [hW3]
    exact blk_below (blk_below (heap_alloc_new w _) ((Below.refl _ _).alloc (Nat.le_refl _) _)) ((Below.refl _ _).alloc (Nat.le_refl _) _)
  have h1 : W3.heap[w.heap.size + 1]? = some (.cells #[.int .i64 r.f0, .int .i64 r.f1, .string r.f2] 50 (0, 0)) := by
    rw [hW3]
    have := blk_below (heap_alloc_new (w.alloc (.cells #[.int .i64 s.f0, .int .i64 s.f1, .int .i64 s.f2, .int .i64 s.f3, .slice A n c] 28)) (.cells #[.int .i64 r.f0, .int .i64 r.f1, .string r.f2] 50)) ((Below.refl _ _).alloc (Nat.le_refl _) (.cells #[.int .i64 0, .int .i64 0, .int .i64 0, .int .i64 0, .slice none 0 0] 28))
    simpa using this
  have h2 : W3.heap[w.heap.size + 2]? = some (.cells #[.int .i64 0, .int .i64 0, .int .i64 0, .int .i64 0, .slice none 0 0] 28 (0, 0)) := by
    rw [hW3]
    have := heap_alloc_new ((w.alloc (.cells #[.int .i64 s.f0, .int .i64 s.f1, .int .i64 s.f2, .int .i64 s.f3, .slice A n c] 28)).alloc (.cells #[.int .i64 r.f0, .int .i64 r.f1, .string r.f2] 50)) (.cells #[.int .i64 0, .int .i64 0, .int .i64 0, .int .i64 0, .slice none 0 0] 28)
    simpa using this
  have hbw : Below w.heap.size w W3 := by rw [hW3]; exact below_alloc (below_alloc (below_alloc (Below.refl _ _) _) _) _
  have HA3 := Lib.hid (ApW.mk h0 h1 h2 hbw : ApW w W3 s r A n c)
  have HW3 := Lib.hid hW3
  have y2 : W3.cell? ⟨w.heap.size + 1, 2, none⟩ = some (.string r.f2) := (blk_cell h1 2).trans rfl
  clear hW3 h0 h1 h2 hbw
  go_enter Try.func36, Try.ntmps36
  go_upto_region 1 with fail
  rw [← HW3.out]
  go_upto_region 5 with (first | (go_at_call 68; go_loud ((with_reducible refine (HVT.out _).mono ?_); rintro e w4 ⟨rfl, hb4⟩; have HB4 := Lib.hid hb4; have hq := blk_below HA3.out.b1 hb4; have y0 : w4.cell? ⟨w.heap.size + 1, 0, none⟩ = some (.int .i64 r.f0) := (blk_cell hq 0).trans rfl; have y1 : w4.cell? ⟨w.heap.size + 1, 1, none⟩ = some (.int .i64 r.f1) := (blk_cell hq 1).trans rfl; clear hq hb4)))
  obtain ⟨WI, hWI⟩ : ∃ W, W = w4.alloc (.cells #[.int .i64 r.f0, .int .i64 r.f1, .int .i64 0, .int .i64 0, .int .i64 0, .int .i64 0, .int .i64 0, .int .i64 0, .int .i64 0, .int .i64 0, .int .i64 0, .int .i64 0] 46) := ⟨_, rfl⟩
  rw [← hWI]
  have hba : Below w4.heap.size w4 WI := by rw [hWI]; exact (Below.refl _ _).alloc (Nat.le_refl _) _
  have hbi : Below W3.heap.size W3 WI := HB4.out.trans (hba.mono HB4.out.size)
  have HAI := Lib.hid (ApW.mk (blk_below HA3.out.b0 hbi) (blk_below HA3.out.b1 hbi) (blk_below HA3.out.b2 hbi) (HA3.out.bw.trans (hbi.mono HA3.out.bw.size)) : ApW w WI s r A n c)
  have hat : WI.heap[w4.heap.size]? = some (.cells #[.int .i64 r.f0, .int .i64 r.f1, .int .i64 0, .int .i64 0, .int .i64 0, .int .i64 0, .int .i64 0, .int .i64 0, .int .i64 0, .int .i64 0, .int .i64 0, .int .i64 0] 46 (0, 0)) := by rw [hWI]; exact heap_alloc_new _ _
  obtain ⟨ga, hga⟩ : ∃ g, w4.heap.size = g := ⟨_, rfl⟩
  have hgl : w.heap.size + 2 < ga := by
    have h1 := lt_of_block HA3.out.b2
    have h2 := HB4.out.size
    omega
  rw [hga] at hat ⊢
  have HAT := Lib.hid hat
  have HGL := Lib.hid hgl
  have hx4 : WI.cell? ⟨w.heap.size, 4, none⟩ = some (.slice A n c) := (blk_cell HAI.out.b0 4).trans rfl
  have HX4 := Lib.hid hx4
  have HT0 := Lib.hid (show WI.cell? ⟨ga, 0, none⟩ = some (.int .i64 r.f0) from (blk_cell hat 0).trans rfl)
  have HT1 := Lib.hid (show WI.cell? ⟨ga, 1, none⟩ = some (.int .i64 r.f1) from (blk_cell hat 1).trans rfl)
  have HT2 := Lib.hid (show WI.cell? ⟨ga, 2, none⟩ = some (.int .i64 0) from (blk_cell hat 2).trans rfl)
  have HT3 := Lib.hid (show WI.cell? ⟨ga, 3, none⟩ = some (.int .i64 0) from (blk_cell hat 3).trans rfl)
  have HT4 := Lib.hid (show WI.cell? ⟨ga, 4, none⟩ = some (.int .i64 0) from (blk_cell hat 4).trans rfl)
  have HT5 := Lib.hid (show WI.cell? ⟨ga, 5, none⟩ = some (.int .i64 0) from (blk_cell hat 5).trans rfl)
  have HT6 := Lib.hid (show WI.cell? ⟨ga, 6, none⟩ = some (.int .i64 0) from (blk_cell hat 6).trans rfl)
  have HT7 := Lib.hid (show WI.cell? ⟨ga, 7, none⟩ = some (.int .i64 0) from (blk_cell hat 7).trans rfl)
  have HT8 := Lib.hid (show WI.cell? ⟨ga, 8, none⟩ = some (.int .i64 0) from (blk_cell hat 8).trans rfl)
  have HT9 := Lib.hid (show WI.cell? ⟨ga, 9, none⟩ = some (.int .i64 0) from (blk_cell hat 9).trans rfl)
  have HT10 := Lib.hid (show WI.cell? ⟨ga, 10, none⟩ = some (.int .i64 0) from (blk_cell hat 10).trans rfl)
  have HT11 := Lib.hid (show WI.cell? ⟨ga, 11, none⟩ = some (.int .i64 0) from (blk_cell hat 11).trans rfl)
  clear hWI hba hbi hat hx4 y0 y1 y2 hga hgl
  go_upto_block 0 with fail
  go_cut [10] from 33 to 48 (fun v10 wc => v10 = .int .i64 (i : Int) ∧ Below WI.heap.size WI wc)
  case first =>
    go_wp2
    go_loopg [10] n (fun kq v10 WX => ∃ (j : Nat), v10 = .int .i64 (j : Int) ∧ j ≤ i ∧ n - j ≤ kq ∧ Below WI.heap.size WI WX)
    case atStart => exact ⟨0, rfl, Nat.zero_le _, by omega, Below.refl _ _⟩
    case round =>
      obtain ⟨j, rfl, hji, hjk, hbr⟩ := hrel
      obtain ⟨WX, hWX⟩ : ∃ W, W = wr := ⟨_, rfl⟩
      subst hWX
      have HBR := Lib.hid hbr
      clear hbr
      have hin : i ≤ n := by have h1 := HP1.out; have h2 := HN.out; omega
      by_cases hj : j < n
      rotate_left
      · have d1 : decide ((j : Int) < (n : Int)) = false := decide_eq_false (by omega)
        obtain rfl : j = i := by omega
        go_wp2
        refine wp_region_held_drew (S := fun w_ => Below WX.heap.size WX w_) (by kernel_rfl) (below_drew (Below.refl _ _)) (fun hS_ => ?_)
        have hS : Below WX.heap.size WX _ := hS_
        clear hS_
        change wpAnyH _ _ _ _ _ 14 #[false, false, false, false, false, false, false, false, false, false, false, false, false, false] _ _
        refine takeE 0 (some 33) #[true, false, false, false, false, false, false, false, false, false, false, false, false, false] hS ?_
        refine takeE 1 (some 34) #[true, true, false, false, false, false, false, false, false, false, false, false, false, false] hS ?_
        refine takeE 2 (some 35) #[true, true, true, false, false, false, false, false, false, false, false, false, false, false] hS ?_ (hy := fun w_ hS_ => by (replace hS_ : Below WX.heap.size WX w_ := hS_); have x0_ := below_cell (Below.trans HBR.out (hS_.mono HBR.out.size)) HX4.out; go_simp <;> with_reducible rfl)
        refine doD (i := 3) (ls2 := #[true, true, true, true, false, false, false, false, false, false, false, false, false, false]) (by kernel_rfl) rfl (by kernel_rfl) (by kernel_rfl) (fun K hK => ?_)
        go_simp
        refine hK.out _ _ ?_ (fun hS_ => ?_)
        · show Below WX.heap.size WX _
          exact hS
        clear hK K hS
        have hS : Below WX.heap.size WX _ := hS_
        clear hS_
        refine takeE 4 (some 37) #[true, true, true, true, true, false, false, false, false, false, false, false, false, false] hS ?_
        refine takeE 5 (some 38) #[true, true, true, true, true, true, false, false, false, false, false, false, false, false] hS ?_
        refine offE 6 (some 39) #[true, true, true, true, true, true, true, false, false, false, false, false, false, false] hS ?_
        refine offE 7 (some 40) #[true, true, true, true, true, true, true, true, false, false, false, false, false, false] hS ?_
        refine offE 8 (some 41) #[true, true, true, true, true, true, true, true, true, false, false, false, false, false] hS ?_
        refine offE 9 (some 42) #[true, true, true, true, true, true, true, true, true, true, false, false, false, false] hS ?_
        refine offE 10 (some 43) #[true, true, true, true, true, true, true, true, true, true, true, false, false, false] hS ?_
        refine offE 11 (some 44) #[true, true, true, true, true, true, true, true, true, true, true, true, false, false] hS ?_
        refine offE 12 (some 45) #[true, true, true, true, true, true, true, true, true, true, true, true, true, false] hS ?_
        refine takeE 13 (some 46) #[true, true, true, true, true, true, true, true, true, true, true, true, true, true] hS ?_
        refine wpAnyH_done (by kernel_rfl) ?_ _
        try go_simp
        have HSS := Lib.hid hS
        clear hS
        go_wp2
        go_meet
        case rel => exact ⟨rfl, HBR.out.trans (HSS.out.mono HBR.out.size)⟩
      · have d1 : decide ((j : Int) < (n : Int)) = true := decide_eq_true (by omega)
        have hbj : (0 : Int) ≤ (j : Int) ∧ (j : Int) < (n : Int) := by omega
        have hwj : IntKind.i64.wrap ((j : Int) + 1) = ((j + 1 : Nat) : Int) := by rw [IntKind.wrap_i64]; omega
        obtain ⟨adx, had, x0, x1, x2, x3, x4, x5, x6, x7, x8, x9, x10, x11⟩ := at_T46 (Kd.C_below HRA.out HAI.out.bw) (j : Int) (by omega) (by omega)
        cases had
        rw [Int.toNat_natCast] at x0 x1 x2 x3 x4 x5 x6 x7 x8 x9 x10 x11
        obtain ⟨x, hx⟩ : ∃ x, rd_T46 s.f4 (j : Int) = x := ⟨_, rfl⟩
        rw [hx] at x0 x1 x2 x3 x4 x5 x6 x7 x8 x9 x10 x11
        have HXE := Lib.hid hx
        have HX_0 := Lib.hid x0
        have HX_1 := Lib.hid x1
        have HX_2 := Lib.hid x2
        have HX_3 := Lib.hid x3
        have HX_4 := Lib.hid x4
        have HX_5 := Lib.hid x5
        have HX_6 := Lib.hid x6
        have HX_7 := Lib.hid x7
        have HX_8 := Lib.hid x8
        have HX_9 := Lib.hid x9
        have HX_10 := Lib.hid x10
        have HX_11 := Lib.hid x11
        clear x0 x1 x2 x3 x4 x5 x6 x7 x8 x9 x10 x11 hx
        have hax : ∀ w, Calls Try.prog 61 #[cellV x, (.agg #[.int .i64 r.f0, .int .i64 r.f1, .int .i64 0, .int .i64 0, .int .i64 0, .int .i64 0, .int .i64 0, .int .i64 0, .int .i64 0, .int .i64 0, .int .i64 0, .int .i64 0])] w fun e w' => e = .returned (.bool (aheadB x ⟨r.f0, r.f1, z44⟩)) ∧ Below w.heap.size w w' := fun w => ahead_calls x ⟨r.f0, r.f1, z44⟩ w
        cases gk with
        | zero => omega
        | succ gk =>
        go_wp2
        by_cases hji2 : j < i
        · have hq1 : aheadB x ⟨r.f0, r.f1, z44⟩ = true := by rw [← HXE.out]; exact HP2.out j hji2
          rw [hq1] at hax
          have HAX := Lib.hid hax
          clear hax hq1
          refine wp_region_held_drew (S := fun w_ => Below WX.heap.size WX w_) (by kernel_rfl) (below_drew (Below.refl _ _)) (fun hS_ => ?_)
          have hS : Below WX.heap.size WX _ := hS_
          clear hS_
          change wpAnyH _ _ _ _ _ 14 #[false, false, false, false, false, false, false, false, false, false, false, false, false, false] _ _
          refine takeE 0 (some 33) #[true, false, false, false, false, false, false, false, false, false, false, false, false, false] hS ?_
          refine takeE 1 (some 34) #[true, true, false, false, false, false, false, false, false, false, false, false, false, false] hS ?_
          refine takeE 2 (some 35) #[true, true, true, false, false, false, false, false, false, false, false, false, false, false] hS ?_ (hy := fun w_ hS_ => by (replace hS_ : Below WX.heap.size WX w_ := hS_); have x0_ := below_cell (Below.trans HBR.out (hS_.mono HBR.out.size)) HX4.out; go_simp <;> with_reducible rfl)
          refine doD (i := 3) (ls2 := #[true, true, true, true, false, false, false, false, false, false, false, false, false, false]) (by kernel_rfl) rfl (by kernel_rfl) (by kernel_rfl) (fun K hK => ?_)
          go_simp
          refine hK.out _ _ ?_ (fun hS_ => ?_)
          · show Below WX.heap.size WX _
            exact hS
          clear hK K hS
          have hS : Below WX.heap.size WX _ := hS_
          clear hS_
          refine takeE 4 (some 37) #[true, true, true, true, true, false, false, false, false, false, false, false, false, false] hS ?_
          refine takeE 5 (some 38) #[true, true, true, true, true, true, false, false, false, false, false, false, false, false] hS ?_
          refine takeE 6 (some 39) #[true, true, true, true, true, true, true, false, false, false, false, false, false, false] hS ?_
          refine takeE 7 (some 40) #[true, true, true, true, true, true, true, true, false, false, false, false, false, false] hS ?_ (hy := fun w_ hS_ => by (replace hS_ : Below WX.heap.size WX w_ := hS_); have x0_ := below_cell (Below.trans HBR.out (hS_.mono HBR.out.size)) HX4.out; go_simp <;> with_reducible rfl)
          refine takeE 8 (some 41) #[true, true, true, true, true, true, true, true, true, false, false, false, false, false] hS ?_
          refine takeE 9 (some 42) #[true, true, true, true, true, true, true, true, true, true, false, false, false, false] hS ?_
          refine takeE 10 (some 43) #[true, true, true, true, true, true, true, true, true, true, true, false, false, false] hS ?_ (hy := fun w_ hS_ => by (replace hS_ : Below WX.heap.size WX w_ := hS_); have x0_ := below_cell (Below.trans HBR.out (hS_.mono HBR.out.size)) HX_0.out; have x1_ := below_cell (Below.trans HBR.out (hS_.mono HBR.out.size)) HX_1.out; have x2_ := below_cell (Below.trans HBR.out (hS_.mono HBR.out.size)) HX_2.out; have x3_ := below_cell (Below.trans HBR.out (hS_.mono HBR.out.size)) HX_3.out; have x4_ := below_cell (Below.trans HBR.out (hS_.mono HBR.out.size)) HX_4.out; have x5_ := below_cell (Below.trans HBR.out (hS_.mono HBR.out.size)) HX_5.out; have x6_ := below_cell (Below.trans HBR.out (hS_.mono HBR.out.size)) HX_6.out; have x7_ := below_cell (Below.trans HBR.out (hS_.mono HBR.out.size)) HX_7.out; have x8_ := below_cell (Below.trans HBR.out (hS_.mono HBR.out.size)) HX_8.out; have x9_ := below_cell (Below.trans HBR.out (hS_.mono HBR.out.size)) HX_9.out; have x10_ := below_cell (Below.trans HBR.out (hS_.mono HBR.out.size)) HX_10.out; have x11_ := below_cell (Below.trans HBR.out (hS_.mono HBR.out.size)) HX_11.out; go_simp <;> with_reducible rfl)
          refine takeE 11 (some 44) #[true, true, true, true, true, true, true, true, true, true, true, true, false, false] hS ?_ (hy := fun w_ hS_ => by (replace hS_ : Below WX.heap.size WX w_ := hS_); have x0_ := below_cell (Below.trans HBR.out (hS_.mono HBR.out.size)) HT0.out; have x1_ := below_cell (Below.trans HBR.out (hS_.mono HBR.out.size)) HT1.out; have x2_ := below_cell (Below.trans HBR.out (hS_.mono HBR.out.size)) HT2.out; have x3_ := below_cell (Below.trans HBR.out (hS_.mono HBR.out.size)) HT3.out; have x4_ := below_cell (Below.trans HBR.out (hS_.mono HBR.out.size)) HT4.out; have x5_ := below_cell (Below.trans HBR.out (hS_.mono HBR.out.size)) HT5.out; have x6_ := below_cell (Below.trans HBR.out (hS_.mono HBR.out.size)) HT6.out; have x7_ := below_cell (Below.trans HBR.out (hS_.mono HBR.out.size)) HT7.out; have x8_ := below_cell (Below.trans HBR.out (hS_.mono HBR.out.size)) HT8.out; have x9_ := below_cell (Below.trans HBR.out (hS_.mono HBR.out.size)) HT9.out; have x10_ := below_cell (Below.trans HBR.out (hS_.mono HBR.out.size)) HT10.out; have x11_ := below_cell (Below.trans HBR.out (hS_.mono HBR.out.size)) HT11.out; go_simp <;> with_reducible rfl)
          refine doD (i := 12) (ls2 := #[true, true, true, true, true, true, true, true, true, true, true, true, true, false]) (by kernel_rfl) rfl (by kernel_rfl) (by kernel_rfl) (fun K hK => ?_)
          go_simp
          go_wp2_with (first | (go_at_call 61; go_loud ((with_reducible refine (HAX.out _).mono ?_); rintro e w6 ⟨rfl, hb6⟩)))
          refine hK.out _ _ ?_ (fun hS_ => ?_)
          · show Below WX.heap.size WX _
            exact hS.trans (hb6.mono hS.size)
          clear hK K hS hb6
          have hS : Below WX.heap.size WX _ := hS_
          clear hS_
          refine takeE 13 (some 46) #[true, true, true, true, true, true, true, true, true, true, true, true, true, true] hS ?_
          refine wpAnyH_done (by kernel_rfl) ?_ _
          try go_simp
          have HSS := Lib.hid hS
          clear hS
          go_wp2
          go_roundg gk
          case measure => omega
          case rel => exact ⟨j + 1, by first | rfl | (congr 1), by omega, by omega, HBR.out.trans (HSS.out.mono HBR.out.size)⟩
        · obtain rfl : j = i := by omega
          have hq1 : aheadB x ⟨r.f0, r.f1, z44⟩ = false := by rw [← HXE.out]; exact HP3.out (by have := HN.out; omega)
          rw [hq1] at hax
          have HAX := Lib.hid hax
          clear hax hq1
          refine wp_region_held_drew (S := fun w_ => Below WX.heap.size WX w_) (by kernel_rfl) (below_drew (Below.refl _ _)) (fun hS_ => ?_)
          have hS : Below WX.heap.size WX _ := hS_
          clear hS_
          change wpAnyH _ _ _ _ _ 14 #[false, false, false, false, false, false, false, false, false, false, false, false, false, false] _ _
          refine takeE 0 (some 33) #[true, false, false, false, false, false, false, false, false, false, false, false, false, false] hS ?_
          refine takeE 1 (some 34) #[true, true, false, false, false, false, false, false, false, false, false, false, false, false] hS ?_
          refine takeE 2 (some 35) #[true, true, true, false, false, false, false, false, false, false, false, false, false, false] hS ?_ (hy := fun w_ hS_ => by (replace hS_ : Below WX.heap.size WX w_ := hS_); have x0_ := below_cell (Below.trans HBR.out (hS_.mono HBR.out.size)) HX4.out; go_simp <;> with_reducible rfl)
          refine doD (i := 3) (ls2 := #[true, true, true, true, false, false, false, false, false, false, false, false, false, false]) (by kernel_rfl) rfl (by kernel_rfl) (by kernel_rfl) (fun K hK => ?_)
          go_simp
          refine hK.out _ _ ?_ (fun hS_ => ?_)
          · show Below WX.heap.size WX _
            exact hS
          clear hK K hS
          have hS : Below WX.heap.size WX _ := hS_
          clear hS_
          refine takeE 4 (some 37) #[true, true, true, true, true, false, false, false, false, false, false, false, false, false] hS ?_
          refine takeE 5 (some 38) #[true, true, true, true, true, true, false, false, false, false, false, false, false, false] hS ?_
          refine takeE 6 (some 39) #[true, true, true, true, true, true, true, false, false, false, false, false, false, false] hS ?_
          refine takeE 7 (some 40) #[true, true, true, true, true, true, true, true, false, false, false, false, false, false] hS ?_ (hy := fun w_ hS_ => by (replace hS_ : Below WX.heap.size WX w_ := hS_); have x0_ := below_cell (Below.trans HBR.out (hS_.mono HBR.out.size)) HX4.out; go_simp <;> with_reducible rfl)
          refine takeE 8 (some 41) #[true, true, true, true, true, true, true, true, true, false, false, false, false, false] hS ?_
          refine takeE 9 (some 42) #[true, true, true, true, true, true, true, true, true, true, false, false, false, false] hS ?_
          refine takeE 10 (some 43) #[true, true, true, true, true, true, true, true, true, true, true, false, false, false] hS ?_ (hy := fun w_ hS_ => by (replace hS_ : Below WX.heap.size WX w_ := hS_); have x0_ := below_cell (Below.trans HBR.out (hS_.mono HBR.out.size)) HX_0.out; have x1_ := below_cell (Below.trans HBR.out (hS_.mono HBR.out.size)) HX_1.out; have x2_ := below_cell (Below.trans HBR.out (hS_.mono HBR.out.size)) HX_2.out; have x3_ := below_cell (Below.trans HBR.out (hS_.mono HBR.out.size)) HX_3.out; have x4_ := below_cell (Below.trans HBR.out (hS_.mono HBR.out.size)) HX_4.out; have x5_ := below_cell (Below.trans HBR.out (hS_.mono HBR.out.size)) HX_5.out; have x6_ := below_cell (Below.trans HBR.out (hS_.mono HBR.out.size)) HX_6.out; have x7_ := below_cell (Below.trans HBR.out (hS_.mono HBR.out.size)) HX_7.out; have x8_ := below_cell (Below.trans HBR.out (hS_.mono HBR.out.size)) HX_8.out; have x9_ := below_cell (Below.trans HBR.out (hS_.mono HBR.out.size)) HX_9.out; have x10_ := below_cell (Below.trans HBR.out (hS_.mono HBR.out.size)) HX_10.out; have x11_ := below_cell (Below.trans HBR.out (hS_.mono HBR.out.size)) HX_11.out; go_simp <;> with_reducible rfl)
          refine takeE 11 (some 44) #[true, true, true, true, true, true, true, true, true, true, true, true, false, false] hS ?_ (hy := fun w_ hS_ => by (replace hS_ : Below WX.heap.size WX w_ := hS_); have x0_ := below_cell (Below.trans HBR.out (hS_.mono HBR.out.size)) HT0.out; have x1_ := below_cell (Below.trans HBR.out (hS_.mono HBR.out.size)) HT1.out; have x2_ := below_cell (Below.trans HBR.out (hS_.mono HBR.out.size)) HT2.out; have x3_ := below_cell (Below.trans HBR.out (hS_.mono HBR.out.size)) HT3.out; have x4_ := below_cell (Below.trans HBR.out (hS_.mono HBR.out.size)) HT4.out; have x5_ := below_cell (Below.trans HBR.out (hS_.mono HBR.out.size)) HT5.out; have x6_ := below_cell (Below.trans HBR.out (hS_.mono HBR.out.size)) HT6.out; have x7_ := below_cell (Below.trans HBR.out (hS_.mono HBR.out.size)) HT7.out; have x8_ := below_cell (Below.trans HBR.out (hS_.mono HBR.out.size)) HT8.out; have x9_ := below_cell (Below.trans HBR.out (hS_.mono HBR.out.size)) HT9.out; have x10_ := below_cell (Below.trans HBR.out (hS_.mono HBR.out.size)) HT10.out; have x11_ := below_cell (Below.trans HBR.out (hS_.mono HBR.out.size)) HT11.out; go_simp <;> with_reducible rfl)
          refine doD (i := 12) (ls2 := #[true, true, true, true, true, true, true, true, true, true, true, true, true, false]) (by kernel_rfl) rfl (by kernel_rfl) (by kernel_rfl) (fun K hK => ?_)
          go_simp
          go_wp2_with (first | (go_at_call 61; go_loud ((with_reducible refine (HAX.out _).mono ?_); rintro e w6 ⟨rfl, hb6⟩)))
          refine hK.out _ _ ?_ (fun hS_ => ?_)
          · show Below WX.heap.size WX _
            exact hS.trans (hb6.mono hS.size)
          clear hK K hS hb6
          have hS : Below WX.heap.size WX _ := hS_
          clear hS_
          refine takeE 13 (some 46) #[true, true, true, true, true, true, true, true, true, true, true, true, true, true] hS ?_
          refine wpAnyH_done (by kernel_rfl) ?_ _
          try go_simp
          have HSS := Lib.hid hS
          clear hS
          go_wp2
          go_meet
          case rel => exact ⟨rfl, HBR.out.trans (HSS.out.mono HBR.out.size)⟩
  case rest =>
    obtain ⟨rfl, hbr⟩ := hcut
    obtain ⟨WX, hWX⟩ : ∃ W, W = wc := ⟨_, rfl⟩
    subst hWX
    have HBR := Lib.hid hbr
    clear hbr
    have hin : i ≤ n := by have h1 := HP1.out; have h2 := HN.out; omega
    go_upto_region 8 with fail
    go_cut [11] from 49 to 63 (fun v11 wc => v11 = .bool is ∧ Below WI.heap.size WI wc)
    case first =>
      by_cases hj : i < n
      rotate_left
      · have d1 : decide ((i : Int) < (n : Int)) = false := decide_eq_false (by omega)
        have hisf : is = false := by rw [← HIS.out]; unfold isP; rw [decide_eq_false (by have := HN.out; omega)]; rfl
        subst hisf
        refine wp_region_held_drew (S := fun w_ => Below WX.heap.size WX w_) (by kernel_rfl) (below_drew (Below.refl _ _)) (fun hS_ => ?_)
        have hS : Below WX.heap.size WX _ := hS_
        clear hS_
        change wpAnyH _ _ _ _ _ 16 #[false, false, false, false, false, false, false, false, false, false, false, false, false, false, false, false] _ _
        refine takeE 0 (some 49) #[true, false, false, false, false, false, false, false, false, false, false, false, false, false, false, false] hS ?_
        refine takeE 1 (some 50) #[true, true, false, false, false, false, false, false, false, false, false, false, false, false, false, false] hS ?_
        refine takeE 2 (some 51) #[true, true, true, false, false, false, false, false, false, false, false, false, false, false, false, false] hS ?_ (hy := fun w_ hS_ => by (replace hS_ : Below WX.heap.size WX w_ := hS_); have x0_ := below_cell (Below.trans HBR.out (hS_.mono HBR.out.size)) HX4.out; go_simp <;> with_reducible rfl)
        refine doD (i := 3) (ls2 := #[true, true, true, true, false, false, false, false, false, false, false, false, false, false, false, false]) (by kernel_rfl) rfl (by kernel_rfl) (by kernel_rfl) (fun K hK => ?_)
        go_simp
        refine hK.out _ _ ?_ (fun hS_ => ?_)
        · show Below WX.heap.size WX _
          exact hS
        clear hK K hS
        have hS : Below WX.heap.size WX _ := hS_
        clear hS_
        refine takeE 4 (some 53) #[true, true, true, true, true, false, false, false, false, false, false, false, false, false, false, false] hS ?_
        refine takeE 5 (some 54) #[true, true, true, true, true, true, false, false, false, false, false, false, false, false, false, false] hS ?_
        refine offE 6 (some 55) #[true, true, true, true, true, true, true, false, false, false, false, false, false, false, false, false] hS ?_
        refine offE 7 (some 56) #[true, true, true, true, true, true, true, true, false, false, false, false, false, false, false, false] hS ?_
        refine offE 8 (some 57) #[true, true, true, true, true, true, true, true, true, false, false, false, false, false, false, false] hS ?_
        refine offE 9 (some 58) #[true, true, true, true, true, true, true, true, true, true, false, false, false, false, false, false] hS ?_
        refine offE 10 (some 59) #[true, true, true, true, true, true, true, true, true, true, true, false, false, false, false, false] hS ?_
        refine offE 11 (some 60) #[true, true, true, true, true, true, true, true, true, true, true, true, false, false, false, false] hS ?_
        refine offE 12 (some 61) #[true, true, true, true, true, true, true, true, true, true, true, true, true, false, false, false] hS ?_
        refine offE 13 (some 62) #[true, true, true, true, true, true, true, true, true, true, true, true, true, true, false, false] hS ?_
        refine takeE 14 (some 63) #[true, true, true, true, true, true, true, true, true, true, true, true, true, true, true, false] hS ?_
        refine takeE 15 (some 11) #[true, true, true, true, true, true, true, true, true, true, true, true, true, true, true, true] hS ?_
        refine wpAnyH_done (by kernel_rfl) ?_ _
        try go_simp
        have HSS := Lib.hid hS
        clear hS
        go_wp2
        go_meet
        case rel => exact ⟨rfl, HBR.out.trans (HSS.out.mono HBR.out.size)⟩
      · have d1 : decide ((i : Int) < (n : Int)) = true := decide_eq_true (by omega)
        have hbj : (0 : Int) ≤ (i : Int) ∧ (i : Int) < (n : Int) := by omega
        obtain ⟨adx, had, x0, x1, x2, x3, x4, x5, x6, x7, x8, x9, x10, x11⟩ := at_T46 (Kd.C_below HRA.out HAI.out.bw) (i : Int) (by omega) (by omega)
        cases had
        rw [Int.toNat_natCast] at x0 x1 x2 x3 x4 x5 x6 x7 x8 x9 x10 x11
        obtain ⟨x, hx⟩ : ∃ x, rd_T46 s.f4 (i : Int) = x := ⟨_, rfl⟩
        rw [hx] at x0 x1 x2 x3 x4 x5 x6 x7 x8 x9 x10 x11
        have HXE := Lib.hid hx
        have HX_0 := Lib.hid x0
        have HX_1 := Lib.hid x1
        have HX_2 := Lib.hid x2
        have HX_3 := Lib.hid x3
        have HX_4 := Lib.hid x4
        have HX_5 := Lib.hid x5
        have HX_6 := Lib.hid x6
        have HX_7 := Lib.hid x7
        have HX_8 := Lib.hid x8
        have HX_9 := Lib.hid x9
        have HX_10 := Lib.hid x10
        have HX_11 := Lib.hid x11
        clear x0 x1 x2 x3 x4 x5 x6 x7 x8 x9 x10 x11 hx
        have hax : ∀ w, Calls Try.prog 61 #[(.agg #[.int .i64 r.f0, .int .i64 r.f1, .int .i64 0, .int .i64 0, .int .i64 0, .int .i64 0, .int .i64 0, .int .i64 0, .int .i64 0, .int .i64 0, .int .i64 0, .int .i64 0]), cellV x] w fun e w' => e = .returned (.bool (aheadB ⟨r.f0, r.f1, z44⟩ x)) ∧ Below w.heap.size w w' := fun w => ahead_calls ⟨r.f0, r.f1, z44⟩ x w
        have hise : is = !aheadB ⟨r.f0, r.f1, z44⟩ x := by rw [← HIS.out]; unfold isP; rw [decide_eq_true (by have := HN.out; omega), HXE.out]; rfl
        obtain ⟨q1, hq1⟩ : ∃ q, aheadB ⟨r.f0, r.f1, z44⟩ x = q := ⟨_, rfl⟩
        rw [hq1] at hax hise
        subst hise
        have HAX := Lib.hid hax
        clear hax hq1
        refine wp_region_held_drew (S := fun w_ => Below WX.heap.size WX w_) (by kernel_rfl) (below_drew (Below.refl _ _)) (fun hS_ => ?_)
        have hS : Below WX.heap.size WX _ := hS_
        clear hS_
        change wpAnyH _ _ _ _ _ 16 #[false, false, false, false, false, false, false, false, false, false, false, false, false, false, false, false] _ _
        refine takeE 0 (some 49) #[true, false, false, false, false, false, false, false, false, false, false, false, false, false, false, false] hS ?_
        refine takeE 1 (some 50) #[true, true, false, false, false, false, false, false, false, false, false, false, false, false, false, false] hS ?_
        refine takeE 2 (some 51) #[true, true, true, false, false, false, false, false, false, false, false, false, false, false, false, false] hS ?_ (hy := fun w_ hS_ => by (replace hS_ : Below WX.heap.size WX w_ := hS_); have x0_ := below_cell (Below.trans HBR.out (hS_.mono HBR.out.size)) HX4.out; go_simp <;> with_reducible rfl)
        refine doD (i := 3) (ls2 := #[true, true, true, true, false, false, false, false, false, false, false, false, false, false, false, false]) (by kernel_rfl) rfl (by kernel_rfl) (by kernel_rfl) (fun K hK => ?_)
        go_simp
        refine hK.out _ _ ?_ (fun hS_ => ?_)
        · show Below WX.heap.size WX _
          exact hS
        clear hK K hS
        have hS : Below WX.heap.size WX _ := hS_
        clear hS_
        refine takeE 4 (some 53) #[true, true, true, true, true, false, false, false, false, false, false, false, false, false, false, false] hS ?_
        refine takeE 5 (some 54) #[true, true, true, true, true, true, false, false, false, false, false, false, false, false, false, false] hS ?_
        refine takeE 6 (some 55) #[true, true, true, true, true, true, true, false, false, false, false, false, false, false, false, false] hS ?_ (hy := fun w_ hS_ => by (replace hS_ : Below WX.heap.size WX w_ := hS_); have x0_ := below_cell (Below.trans HBR.out (hS_.mono HBR.out.size)) HT0.out; have x1_ := below_cell (Below.trans HBR.out (hS_.mono HBR.out.size)) HT1.out; have x2_ := below_cell (Below.trans HBR.out (hS_.mono HBR.out.size)) HT2.out; have x3_ := below_cell (Below.trans HBR.out (hS_.mono HBR.out.size)) HT3.out; have x4_ := below_cell (Below.trans HBR.out (hS_.mono HBR.out.size)) HT4.out; have x5_ := below_cell (Below.trans HBR.out (hS_.mono HBR.out.size)) HT5.out; have x6_ := below_cell (Below.trans HBR.out (hS_.mono HBR.out.size)) HT6.out; have x7_ := below_cell (Below.trans HBR.out (hS_.mono HBR.out.size)) HT7.out; have x8_ := below_cell (Below.trans HBR.out (hS_.mono HBR.out.size)) HT8.out; have x9_ := below_cell (Below.trans HBR.out (hS_.mono HBR.out.size)) HT9.out; have x10_ := below_cell (Below.trans HBR.out (hS_.mono HBR.out.size)) HT10.out; have x11_ := below_cell (Below.trans HBR.out (hS_.mono HBR.out.size)) HT11.out; go_simp <;> with_reducible rfl)
        refine takeE 7 (some 56) #[true, true, true, true, true, true, true, true, false, false, false, false, false, false, false, false] hS ?_
        refine takeE 8 (some 57) #[true, true, true, true, true, true, true, true, true, false, false, false, false, false, false, false] hS ?_ (hy := fun w_ hS_ => by (replace hS_ : Below WX.heap.size WX w_ := hS_); have x0_ := below_cell (Below.trans HBR.out (hS_.mono HBR.out.size)) HX4.out; go_simp <;> with_reducible rfl)
        refine takeE 9 (some 58) #[true, true, true, true, true, true, true, true, true, true, false, false, false, false, false, false] hS ?_
        refine takeE 10 (some 59) #[true, true, true, true, true, true, true, true, true, true, true, false, false, false, false, false] hS ?_
        refine takeE 11 (some 60) #[true, true, true, true, true, true, true, true, true, true, true, true, false, false, false, false] hS ?_ (hy := fun w_ hS_ => by (replace hS_ : Below WX.heap.size WX w_ := hS_); have x0_ := below_cell (Below.trans HBR.out (hS_.mono HBR.out.size)) HX_0.out; have x1_ := below_cell (Below.trans HBR.out (hS_.mono HBR.out.size)) HX_1.out; have x2_ := below_cell (Below.trans HBR.out (hS_.mono HBR.out.size)) HX_2.out; have x3_ := below_cell (Below.trans HBR.out (hS_.mono HBR.out.size)) HX_3.out; have x4_ := below_cell (Below.trans HBR.out (hS_.mono HBR.out.size)) HX_4.out; have x5_ := below_cell (Below.trans HBR.out (hS_.mono HBR.out.size)) HX_5.out; have x6_ := below_cell (Below.trans HBR.out (hS_.mono HBR.out.size)) HX_6.out; have x7_ := below_cell (Below.trans HBR.out (hS_.mono HBR.out.size)) HX_7.out; have x8_ := below_cell (Below.trans HBR.out (hS_.mono HBR.out.size)) HX_8.out; have x9_ := below_cell (Below.trans HBR.out (hS_.mono HBR.out.size)) HX_9.out; have x10_ := below_cell (Below.trans HBR.out (hS_.mono HBR.out.size)) HX_10.out; have x11_ := below_cell (Below.trans HBR.out (hS_.mono HBR.out.size)) HX_11.out; go_simp <;> with_reducible rfl)
        refine doD (i := 12) (ls2 := #[true, true, true, true, true, true, true, true, true, true, true, true, true, false, false, false]) (by kernel_rfl) rfl (by kernel_rfl) (by kernel_rfl) (fun K hK => ?_)
        go_simp
        go_wp2_with (first | (go_at_call 61; go_loud ((with_reducible refine (HAX.out _).mono ?_); rintro e w6 ⟨rfl, hb6⟩)))
        refine hK.out _ _ ?_ (fun hS_ => ?_)
        · show Below WX.heap.size WX _
          exact hS.trans (hb6.mono hS.size)
        clear hK K hS hb6
        have hS : Below WX.heap.size WX _ := hS_
        clear hS_
        refine takeE 13 (some 62) #[true, true, true, true, true, true, true, true, true, true, true, true, true, true, false, false] hS ?_
        refine takeE 14 (some 63) #[true, true, true, true, true, true, true, true, true, true, true, true, true, true, true, false] hS ?_
        refine takeE 15 (some 11) #[true, true, true, true, true, true, true, true, true, true, true, true, true, true, true, true] hS ?_
        refine wpAnyH_done (by kernel_rfl) ?_ _
        try go_simp
        have HSS := Lib.hid hS
        clear hS
        go_wp2
        go_meet
        case rel => exact ⟨rfl, HBR.out.trans (HSS.out.mono HBR.out.size)⟩
    case rest =>
      obtain ⟨rfl, hbr2⟩ := hcut
      obtain ⟨WY, hWY⟩ : ∃ W, W = wc := ⟨_, rfl⟩
      subst hWY
      clear HBR
      have HBR := Lib.hid hbr2
      have hx4 := below_cell hbr2 HX4.out
      have hcl := clone2_calls A c s.f4 WY (by have h := Kd.C_below HRA.out (HAI.out.bw.trans (hbr2.mono HAI.out.bw.size)); rw [← HN.out] at h; exact h) (by have := HN.out; omega) (by have := HN.out; omega)
      rw [HN.out] at hcl
      have HCL := Lib.hid hcl
      clear hcl hbr2
      go_upto_region 11 with (first | (go_at_call 42; go_loud ((with_reducible refine HCL.out.mono ?_); rintro e w9 ⟨v9, rfl, hR9, hb9⟩; obtain ⟨A12, c12, hv9, hc12, _⟩ := Kd.R_reads hR9; rw [HN.out] at hv9; subst hv9; have HR9 := Lib.hid hR9; have HB9 := Lib.hid hb9; clear hR9 hb9)))
      have hbi9 : Below WI.heap.size WI w9 := HBR.out.trans (HB9.out.mono HBR.out.size)
      have HA9 := Lib.hid (ApW.mk (blk_below HAI.out.b0 hbi9) (blk_below HAI.out.b1 hbi9) (blk_below HAI.out.b2 hbi9) (HAI.out.bw.trans (hbi9.mono HAI.out.bw.size)) : ApW w w9 s r A n c)
      have hwyl : w.heap.size + 2 < WY.heap.size ∧ ga < WY.heap.size := by
        have h1 := lt_of_block (blk_below HAI.out.b2 HBR.out)
        have h2 := lt_of_block (blk_below HAT.out HBR.out)
        omega
      have HWYL := Lib.hid hwyl
      have HAT9 := Lib.hid (blk_below HAT.out hbi9)
      have HRB9 := Lib.hid (R_base HR9.out (show w.heap.size ≤ WY.heap.size by omega) (Nat.le_refl _))
      clear hbi9 hwyl hx4
      obtain rfl : is = false := by rw [← HIS.out]; exact HISQ.out
      go_upto_region 18 with (first | (go_at_call 70; go_loud ((with_reducible refine (HDEC.out _).mono ?_); rintro e w10 ⟨rfl, hb10⟩; have HB10 := Lib.hid hb10; clear hb10)))
      obtain ⟨WA, hWA⟩ : ∃ W, W = w10.alloc (.cells #[.int .i64 a.f0, .int .i64 a.f1, .int .i64 a.f2, .int .i64 a.f3, .int .i64 a.f4.f0, .int .i64 a.f4.f1, .int .i64 a.f4.f2, .int .i64 a.f4.f3, .int .i64 a.f5, .int .i64 a.f6] 44) := ⟨_, rfl⟩
      rw [← hWA]
      have hwa : WA.heap[w10.heap.size]? = some (.cells #[.int .i64 a.f0, .int .i64 a.f1, .int .i64 a.f2, .int .i64 a.f3, .int .i64 a.f4.f0, .int .i64 a.f4.f1, .int .i64 a.f4.f2, .int .i64 a.f4.f3, .int .i64 a.f5, .int .i64 a.f6] 44 (0, 0)) := by rw [hWA]; exact heap_alloc_new _ _
      have hba : Below w9.heap.size w9 WA := by rw [hWA]; exact HB10.out.alloc HB10.out.size _
      have hq1 := blk_below HAT9.out hba
      have z0 : WA.cell? ⟨w10.heap.size, 0, none⟩ = some (.int .i64 a.f0) := (blk_cell hwa 0).trans rfl
      have z1 : WA.cell? ⟨w10.heap.size, 1, none⟩ = some (.int .i64 a.f1) := (blk_cell hwa 1).trans rfl
      have z2 : WA.cell? ⟨w10.heap.size, 2, none⟩ = some (.int .i64 a.f2) := (blk_cell hwa 2).trans rfl
      have z3 : WA.cell? ⟨w10.heap.size, 3, none⟩ = some (.int .i64 a.f3) := (blk_cell hwa 3).trans rfl
      have z4 : WA.cell? ⟨w10.heap.size, 4, none⟩ = some (.int .i64 a.f4.f0) := (blk_cell hwa 4).trans rfl
      have z5 : WA.cell? ⟨w10.heap.size, 5, none⟩ = some (.int .i64 a.f4.f1) := (blk_cell hwa 5).trans rfl
      have z6 : WA.cell? ⟨w10.heap.size, 6, none⟩ = some (.int .i64 a.f4.f2) := (blk_cell hwa 6).trans rfl
      have z7 : WA.cell? ⟨w10.heap.size, 7, none⟩ = some (.int .i64 a.f4.f3) := (blk_cell hwa 7).trans rfl
      have z8 : WA.cell? ⟨w10.heap.size, 8, none⟩ = some (.int .i64 a.f5) := (blk_cell hwa 8).trans rfl
      have z9 : WA.cell? ⟨w10.heap.size, 9, none⟩ = some (.int .i64 a.f6) := (blk_cell hwa 9).trans rfl
      have t2 : WA.cell? ⟨ga, 2, none⟩ = some (.int .i64 0) := (blk_cell hq1 2).trans rfl
      have f2 : WA.frozen? ⟨ga, 2, none⟩ = false := blk_frozen hq1 2
      have t3 : WA.cell? ⟨ga, 3, none⟩ = some (.int .i64 0) := (blk_cell hq1 3).trans rfl
      have f3 : WA.frozen? ⟨ga, 3, none⟩ = false := blk_frozen hq1 3
      have t4 : WA.cell? ⟨ga, 4, none⟩ = some (.int .i64 0) := (blk_cell hq1 4).trans rfl
      have f4 : WA.frozen? ⟨ga, 4, none⟩ = false := blk_frozen hq1 4
      have t5 : WA.cell? ⟨ga, 5, none⟩ = some (.int .i64 0) := (blk_cell hq1 5).trans rfl
      have f5 : WA.frozen? ⟨ga, 5, none⟩ = false := blk_frozen hq1 5
      have t6 : WA.cell? ⟨ga, 6, none⟩ = some (.int .i64 0) := (blk_cell hq1 6).trans rfl
      have f6 : WA.frozen? ⟨ga, 6, none⟩ = false := blk_frozen hq1 6
      have t7 : WA.cell? ⟨ga, 7, none⟩ = some (.int .i64 0) := (blk_cell hq1 7).trans rfl
      have f7 : WA.frozen? ⟨ga, 7, none⟩ = false := blk_frozen hq1 7
      have t8 : WA.cell? ⟨ga, 8, none⟩ = some (.int .i64 0) := (blk_cell hq1 8).trans rfl
      have f8 : WA.frozen? ⟨ga, 8, none⟩ = false := blk_frozen hq1 8
      have t9 : WA.cell? ⟨ga, 9, none⟩ = some (.int .i64 0) := (blk_cell hq1 9).trans rfl
      have f9 : WA.frozen? ⟨ga, 9, none⟩ = false := blk_frozen hq1 9
      have t10 : WA.cell? ⟨ga, 10, none⟩ = some (.int .i64 0) := (blk_cell hq1 10).trans rfl
      have f10 : WA.frozen? ⟨ga, 10, none⟩ = false := blk_frozen hq1 10
      have t11 : WA.cell? ⟨ga, 11, none⟩ = some (.int .i64 0) := (blk_cell hq1 11).trans rfl
      have f11 : WA.frozen? ⟨ga, 11, none⟩ = false := blk_frozen hq1 11
      have HQ1 := Lib.hid hq1
      have HBA := Lib.hid hba
      clear hWA hwa hba hq1
      go_upto_region 21 with fail
      obtain ⟨WU, hWU⟩ : ∃ W, W = (((((((((WA.setCell ⟨ga, 2, none⟩ (.int .i64 a.f0)).setCell ⟨ga, 3, none⟩ (.int .i64 a.f1)).setCell ⟨ga, 4, none⟩ (.int .i64 a.f2)).setCell ⟨ga, 5, none⟩ (.int .i64 a.f3)).setCell ⟨ga, 6, none⟩ (.int .i64 a.f4.f0)).setCell ⟨ga, 7, none⟩ (.int .i64 a.f4.f1)).setCell ⟨ga, 8, none⟩ (.int .i64 a.f4.f2)).setCell ⟨ga, 9, none⟩ (.int .i64 a.f4.f3)).setCell ⟨ga, 10, none⟩ (.int .i64 a.f5)).setCell ⟨ga, 11, none⟩ (.int .i64 a.f6) := ⟨_, rfl⟩
      have HAU := Lib.hid (show WU.heap[ga]? = some (.cells #[.int .i64 r.f0, .int .i64 r.f1, .int .i64 a.f0, .int .i64 a.f1, .int .i64 a.f2, .int .i64 a.f3, .int .i64 a.f4.f0, .int .i64 a.f4.f1, .int .i64 a.f4.f2, .int .i64 a.f4.f3, .int .i64 a.f5, .int .i64 a.f6] 46 (0, 0)) from by rw [hWU]; exact put10_heap HQ1.out (.int .i64 a.f0) (.int .i64 a.f1) (.int .i64 a.f2) (.int .i64 a.f3) (.int .i64 a.f4.f0) (.int .i64 a.f4.f1) (.int .i64 a.f4.f2) (.int .i64 a.f4.f3) (.int .i64 a.f5) (.int .i64 a.f6))
      have hgn : ga ≠ w.heap.size ∧ ga ≠ w.heap.size + 1 + 1 ∧ w.heap.size ≤ ga := by have h1 := lt_of_block HA3.out.b2; have h2 := HGL.out; omega
      have HB0 := Lib.hid (show WU.heap[w.heap.size]? = some (.cells #[.int .i64 s.f0, .int .i64 s.f1, .int .i64 s.f2, .int .i64 s.f3, .slice A n c] 28 (0, 0)) from by rw [hWU]; exact (put10_other hgn.1.symm (.int .i64 a.f0) (.int .i64 a.f1) (.int .i64 a.f2) (.int .i64 a.f3) (.int .i64 a.f4.f0) (.int .i64 a.f4.f1) (.int .i64 a.f4.f2) (.int .i64 a.f4.f3) (.int .i64 a.f5) (.int .i64 a.f6)).trans (blk_below HA9.out.b0 HBA.out))
      have HB2 := Lib.hid (show WU.heap[w.heap.size + 1 + 1]? = some (.cells #[.int .i64 0, .int .i64 0, .int .i64 0, .int .i64 0, .slice none 0 0] 28 (0, 0)) from by rw [hWU]; exact (put10_other hgn.2.1.symm (.int .i64 a.f0) (.int .i64 a.f1) (.int .i64 a.f2) (.int .i64 a.f3) (.int .i64 a.f4.f0) (.int .i64 a.f4.f1) (.int .i64 a.f4.f2) (.int .i64 a.f4.f3) (.int .i64 a.f5) (.int .i64 a.f6)).trans (blk_below HA9.out.b2 HBA.out))
      have HBU := Lib.hid (show Below w.heap.size w WU from by rw [hWU]; exact put10_below (HA9.out.bw.trans (HBA.out.mono HA9.out.bw.size)) hgn.2.2 (.int .i64 a.f0) (.int .i64 a.f1) (.int .i64 a.f2) (.int .i64 a.f3) (.int .i64 a.f4.f0) (.int .i64 a.f4.f1) (.int .i64 a.f4.f2) (.int .i64 a.f4.f3) (.int .i64 a.f5) (.int .i64 a.f6))
      have HRU := Lib.hid (show Kd.R k46 46 WU WY.heap.size (fun k => WY.heap.size ≤ k) (.slice A12 n c12) s.f4 from by rw [hWU]; exact R_other (Kd.R_below (R_base HR9.out (Nat.le_refl _) (Nat.le_refl _)) HBA.out) (fun k hk => put10_other (by have h1 : WY.heap.size ≤ k := hk; have h2 := HWYL.out; omega) (.int .i64 a.f0) (.int .i64 a.f1) (.int .i64 a.f2) (.int .i64 a.f3) (.int .i64 a.f4.f0) (.int .i64 a.f4.f1) (.int .i64 a.f4.f2) (.int .i64 a.f4.f3) (.int .i64 a.f5) (.int .i64 a.f6)))
      have hwus : WY.heap.size ≤ WU.heap.size := by rw [hWU]; have h1 := HB9.out.size; have h2 := HBA.out.size; have h3 := (put10_below (Below.refl 0 WA) (Nat.zero_le ga) (.int .i64 a.f0) (.int .i64 a.f1) (.int .i64 a.f2) (.int .i64 a.f3) (.int .i64 a.f4.f0) (.int .i64 a.f4.f1) (.int .i64 a.f4.f2) (.int .i64 a.f4.f3) (.int .i64 a.f5) (.int .i64 a.f6)).size; exact Nat.le_trans h1 (Nat.le_trans h2 h3)
      have HWUS := Lib.hid hwus
      rw [← hWU]
      clear hWU hwus hgn z0 z1 z2 z3 z4 z5 z6 z7 z8 z9 t2 t3 t4 t5 t6 t7 t8 t9 t10 t11 f2 f3 f4 f5 f6 f7 f8 f9 f10 f11
      have t0 : WU.cell? ⟨ga, 0, none⟩ = some (.int .i64 r.f0) := (blk_cell HAU.out 0).trans rfl
      have t1 : WU.cell? ⟨ga, 1, none⟩ = some (.int .i64 r.f1) := (blk_cell HAU.out 1).trans rfl
      have t2 : WU.cell? ⟨ga, 2, none⟩ = some (.int .i64 a.f0) := (blk_cell HAU.out 2).trans rfl
      have t3 : WU.cell? ⟨ga, 3, none⟩ = some (.int .i64 a.f1) := (blk_cell HAU.out 3).trans rfl
      have t4 : WU.cell? ⟨ga, 4, none⟩ = some (.int .i64 a.f2) := (blk_cell HAU.out 4).trans rfl
      have t5 : WU.cell? ⟨ga, 5, none⟩ = some (.int .i64 a.f3) := (blk_cell HAU.out 5).trans rfl
      have t6 : WU.cell? ⟨ga, 6, none⟩ = some (.int .i64 a.f4.f0) := (blk_cell HAU.out 6).trans rfl
      have t7 : WU.cell? ⟨ga, 7, none⟩ = some (.int .i64 a.f4.f1) := (blk_cell HAU.out 7).trans rfl
      have t8 : WU.cell? ⟨ga, 8, none⟩ = some (.int .i64 a.f4.f2) := (blk_cell HAU.out 8).trans rfl
      have t9 : WU.cell? ⟨ga, 9, none⟩ = some (.int .i64 a.f4.f3) := (blk_cell HAU.out 9).trans rfl
      have t10 : WU.cell? ⟨ga, 10, none⟩ = some (.int .i64 a.f5) := (blk_cell HAU.out 10).trans rfl
      have t11 : WU.cell? ⟨ga, 11, none⟩ = some (.int .i64 a.f6) := (blk_cell HAU.out 11).trans rfl
      have hln12 : (s.f4.take i ++ ⟨r.f0, r.f1, a⟩ :: s.f4.drop i).length = n + 1 := by rw [List.length_append, List.length_cons, List.length_take, List.length_drop, HN.out]; omega
      have HL12 := Lib.hid hln12
      have hba := (Below.refl WU.heap.size WU).alloc (Nat.le_refl _) (.cells #[.int .i64 r.f0, .int .i64 r.f1, .int .i64 a.f0, .int .i64 a.f1, .int .i64 a.f2, .int .i64 a.f3, .int .i64 a.f4.f0, .int .i64 a.f4.f1, .int .i64 a.f4.f2, .int .i64 a.f4.f3, .int .i64 a.f5, .int .i64 a.f6] 46)
      have hins := insert_calls WY.heap.size WU (WU.alloc (.cells #[.int .i64 r.f0, .int .i64 r.f1, .int .i64 a.f0, .int .i64 a.f1, .int .i64 a.f2, .int .i64 a.f3, .int .i64 a.f4.f0, .int .i64 a.f4.f1, .int .i64 a.f4.f2, .int .i64 a.f4.f3, .int .i64 a.f5, .int .i64 a.f6] 46)) (fun k => WY.heap.size ≤ k) A12 c12 s.f4 (⟨r.f0, r.f1, a⟩ : S46) WU.heap.size i (by rw [HN.out]; exact hin) (by rw [HN.out]; omega) (by rw [HN.out]; exact Kd.R_below HRU.out hba) (heap_alloc_new _ _) (fun k hk e => by rw [HN.out] at hk; obtain ⟨cl, hcl⟩ := own_typed (Kd.R_own HRU.out).choose_spec k hk; have := lt_of_block hcl; omega) (hba.mono HWUS.out) (Nat.le_trans HWUS.out hba.size) (fun k hk => Nat.le_trans HWUS.out (Nat.le_trans hba.size hk))
      rw [HN.out] at hins
      have HINS := Lib.hid hins
      clear hba hins hln12
      go_upto_region 26 with (first | (go_at_call 71; go_loud ((with_reducible refine HINS.out.mono ?_); rintro e WT ⟨v12, rfl, hR12, hbt⟩; obtain ⟨A13, c13, hv12, _, _⟩ := Kd.R_reads hR12; rw [HL12.out] at hv12; subst hv12; have HR12 := Lib.hid hR12; have HBT0 := Lib.hid hbt; clear hR12 hbt)))
      have hwl := HWYL.out
      have HB0' := HB0
      have HB2' := HB2
      clear HB0 HB2
      have HB0 := Lib.hid ((HBT0.out.block w.heap.size (by omega)).trans HB0'.out)
      have HB2 := Lib.hid ((HBT0.out.block (w.heap.size + 1 + 1) (by omega)).trans HB2'.out)
      have HBT := Lib.hid (HBU.out.trans (HBT0.out.mono (show w.heap.size ≤ WY.heap.size by omega)))
      have HRT := Lib.hid (R_base HR12.out (show w.heap.size ≤ WY.heap.size by omega) (Nat.le_refl _))
      clear HBT0 HR12 t0 t1 t2 t3 t4 t5 t6 t7 t8 t9 t10 t11 hwl
      have z0 : WT.cell? ⟨w.heap.size, 0, none⟩ = some (.int .i64 s.f0) := (blk_cell HB0.out 0).trans rfl
      have z1 : WT.cell? ⟨w.heap.size, 1, none⟩ = some (.int .i64 s.f1) := (blk_cell HB0.out 1).trans rfl
      have z2 : WT.cell? ⟨w.heap.size, 2, none⟩ = some (.int .i64 s.f2) := (blk_cell HB0.out 2).trans rfl
      have z3 : WT.cell? ⟨w.heap.size, 3, none⟩ = some (.int .i64 s.f3) := (blk_cell HB0.out 3).trans rfl
      have z4 : WT.cell? ⟨w.heap.size, 4, none⟩ = some (.slice A n c) := (blk_cell HB0.out 4).trans rfl
      have y0 : WT.cell? ⟨w.heap.size + 1 + 1, 0, none⟩ = some (.int .i64 0) := (blk_cell HB2.out 0).trans rfl
      have y1 : WT.cell? ⟨w.heap.size + 1 + 1, 1, none⟩ = some (.int .i64 0) := (blk_cell HB2.out 1).trans rfl
      have y2 : WT.cell? ⟨w.heap.size + 1 + 1, 2, none⟩ = some (.int .i64 0) := (blk_cell HB2.out 2).trans rfl
      have y3 : WT.cell? ⟨w.heap.size + 1 + 1, 3, none⟩ = some (.int .i64 0) := (blk_cell HB2.out 3).trans rfl
      have y4 : WT.cell? ⟨w.heap.size + 1 + 1, 4, none⟩ = some (.slice none 0 0) := (blk_cell HB2.out 4).trans rfl
      have f4 := blk_frozen HB0.out 4
      have e0 : WT.frozen? ⟨w.heap.size + 1 + 1, 0, none⟩ = false := blk_frozen HB2.out 0
      have e1 : WT.frozen? ⟨w.heap.size + 1 + 1, 1, none⟩ = false := blk_frozen HB2.out 1
      have e2 : WT.frozen? ⟨w.heap.size + 1 + 1, 2, none⟩ = false := blk_frozen HB2.out 2
      have e3 : WT.frozen? ⟨w.heap.size + 1 + 1, 3, none⟩ = false := blk_frozen HB2.out 3
      have e4 : WT.frozen? ⟨w.heap.size + 1 + 1, 4, none⟩ = false := blk_frozen HB2.out 4
      go_wp2
      have hb2 : (WT.setCell ⟨w.heap.size, 4, none⟩ (.slice A13 (n + 1) c13)).heap[w.heap.size + 1 + 1]? = some (.cells #[.int .i64 0, .int .i64 0, .int .i64 0, .int .i64 0, .slice none 0 0] 28 (0, 0)) := (heap_setCell_other _ _ _ _ (by show w.heap.size + 1 + 1 ≠ w.heap.size; omega)).trans HB2.out
      refine bodyPost_ret (results_ct' rfl _ _ (w.heap.size + 1 + 1) 28 #[.int .i64 s.f0, .int .i64 s.f1, .int .i64 s.f2, .int .i64 s.f3, .slice A13 (n + 1) c13] (0, 0) _ rfl (put5_heap hb2 (.int .i64 s.f0) (.int .i64 s.f1) (.int .i64 s.f2) (.int .i64 s.f3) (.slice A13 (n + 1) c13)) Try.underlying28 rfl (by kernel_rfl)) rfl ?_
      refine ⟨A13, c13, ?_, ?_, put5_below (HBT.out.setCell (p := ⟨w.heap.size, 4, none⟩) (Nat.le_refl _) _) (by omega) (.int .i64 s.f0) (.int .i64 s.f1) (.int .i64 s.f2) (.int .i64 s.f3) (.slice A13 (n + 1) c13)⟩
      · show _ = Ending.returned (.tuple #[.agg #[.int .i64 s.f0, .int .i64 s.f1, .int .i64 s.f2, .int .i64 s.f3, .slice A13 (s.f4.take i ++ ⟨r.f0, r.f1, a⟩ :: s.f4.drop i).length c13], .int .i64 0])
        rw [HL12.out]
        rfl
      · show Kd.R k46 46 _ _ _ (.slice A13 (s.f4.take i ++ ⟨r.f0, r.f1, a⟩ :: s.f4.drop i).length c13) (s.f4.take i ++ ⟨r.f0, r.f1, a⟩ :: s.f4.drop i)
        rw [HL12.out]
        refine R_ok (R_other HRT.out (fun k hk => ?_)) (fun _ _ => trivial)
        have hk' : WY.heap.size ≤ k := hk
        have hwy := HWYL.out
        exact (put5_other (by omega) (.int .i64 s.f0) (.int .i64 s.f1) (.int .i64 s.f2) (.int .i64 s.f3) (.slice A13 (n + 1) c13)).trans (heap_setCell_other _ _ _ _ (by show k ≠ w.heap.size; omega))
end Go.Proofs.Ytgipepjpkmlmaaa.P
