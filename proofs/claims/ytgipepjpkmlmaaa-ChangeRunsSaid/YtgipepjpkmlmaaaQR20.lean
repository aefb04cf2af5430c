import Derived.Test.YtgipepjpkmlmaaaQR1
import Derived.Test.YtgipepjpkmlmaaaQR2
import Derived.Test.YtgipepjpkmlmaaaQR3
import Derived.Test.YtgipepjpkmlmaaaQR4
import Derived.Test.YtgipepjpkmlmaaaQR5
import Derived.Test.YtgipepjpkmlmaaaQR6
import Derived.Test.YtgipepjpkmlmaaaQR7
import Derived.Test.YtgipepjpkmlmaaaQR8
import Derived.Test.YtgipepjpkmlmaaaQR9
import Derived.Test.YtgipepjpkmlmaaaQR10
import Derived.Test.YtgipepjpkmlmaaaQR12
import Derived.Test.YtgipepjpkmlmaaaQR14
import Derived.Test.YtgipepjpkmlmaaaQR16
import Derived.Test.YtgipepjpkmlmaaaQR18
namespace Go.Proofs.Ytgipepjpkmlmaaa.P
open Go.RowKit Go.Proofs.YtgipepjpkmlmaaaW.PrintWords Go.Proofs.YtgipepjpkmlmaaaW.PrintLast Go.Proofs.YtgipepjpkmlmaaaW.PrintMore
set_option linter.unusedVariables false
set_option linter.unusedSimpArgs false
def put4 (w : World) (g : Nat) (a0 a1 a2 a3 : Value) : World := (((w.setCell ⟨g, 0, none⟩ a0).setCell ⟨g, 1, none⟩ a1).setCell ⟨g, 2, none⟩ a2).setCell ⟨g, 3, none⟩ a3
theorem put4_heap {w : World} {g : Nat} {t : TypeId} {b0 b1 b2 b3 b4 : Value} (h : w.heap[g]? = some (.cells #[b0, b1, b2, b3, b4] t (0, 0))) (a0 a1 a2 a3 : Value) : (put4 w g a0 a1 a2 a3).heap[g]? = some (.cells #[a0, a1, a2, a3, b4] t (0, 0)) := by
  unfold put4
  have g1 := blk_put h 0 a0 rfl
  have g2 := blk_put g1 1 a1 rfl
  have g3 := blk_put g2 2 a2 rfl
  exact blk_put g3 3 a3 rfl
theorem put4_below {B g : Nat} {w0 w : World} (h : Below B w0 w) (hg : B ≤ g) (a0 a1 a2 a3 : Value) : Below B w0 (put4 w g a0 a1 a2 a3) := by
  unfold put4
  exact (((h.setCell hg _).setCell hg _).setCell hg _).setCell hg _
theorem put4_other {w : World} {g k : Nat} (h : k ≠ g) (a0 a1 a2 a3 : Value) : (put4 w g a0 a1 a2 a3).heap[k]? = w.heap[k]? := by
  unfold put4
  simp only [heap_setCell_other _ (⟨g, 0, none⟩ : Addr) k _ h, heap_setCell_other _ (⟨g, 1, none⟩ : Addr) k _ h, heap_setCell_other _ (⟨g, 2, none⟩ : Addr) k _ h, heap_setCell_other _ (⟨g, 3, none⟩ : Addr) k _ h]
set_option maxHeartbeats 16000000 in
set_option maxRecDepth 100000 in
theorem apply0_calls (s : S28) (r : S50) (rest : ByteArray) (i : Nat) (m la ba nn : Int) (hta : takeAllL 4 rest [] = ([m, la, ba, nn], ⟨#[]⟩, 0)) (hk0 : r.f0 = 0) (ht0 : r.f1 = 0) (A : Option Addr) (c : Nat) (w : World) (hra : Kd.C k46 w A s.f4.length s.f4) (hca : s.f4.length ≤ c) (hla : s.f4.length ≤ 1000)
    (htk : tkL r.f2 11 0 0 = (0, rest, 0)) (hrs : r.f2.size ≤ 1000000) (hpl : placeOk s.f4 ⟨r.f0, r.f1, z44⟩ i) :
    Calls Try.prog 36 #[.agg #[.int .i64 s.f0, .int .i64 s.f1, .int .i64 s.f2, .int .i64 s.f3, .slice A s.f4.length c], .agg #[.int .i64 r.f0, .int .i64 r.f1, .string r.f2]] w fun e w' => ∃ (A' : Option Addr) (c' : Nat), e = .returned (.tuple #[stV (⟨m, la, ba, nn, s.f4⟩ : S28) A' c', .int .i64 0]) ∧ Kd.R k46 46 w' w.heap.size (fun _ => True) (.slice A' ((⟨m, la, ba, nn, s.f4⟩ : S28)).f4.length c') ((⟨m, la, ba, nn, s.f4⟩ : S28)).f4 ∧ Below w.heap.size w w' := by
  have hvt := fun w => vtake_calls r.f2 w (by omega)
  rw [htk] at hvt
  have hrest : rest.size ≤ 1000000 := by have h := tk_size r.f2 11 0 0; rw [htk] at h; exact Nat.le_trans h hrs
  have HREST := Lib.hid hrest
  have htaC : ∀ w, Calls Try.prog 69 #[.string rest, .int .i64 4] w fun e w' => ∃ v, e = .returned (.tuple #[v, .string ⟨#[]⟩, .int .i64 0]) ∧ Kd.R (Kd.int .i64) 3 w' w.heap.size (fun _ => True) v [m, la, ba, nn] ∧ Below w.heap.size w w' := by
    intro w
    have h := takeAll_calls rest 4 (by decide) (by omega) w
    rw [hta] at h
    exact h
  have HTA := Lib.hid htaC
  have HK0 := Lib.hid hk0
  have HTM := Lib.hid ht0
  clear htaC hta hk0 ht0
  clear hrest htk hrs
  obtain ⟨hp1, hp2, hp3⟩ := hpl
  have HP2 := Lib.hid hp2
  have HP3 := Lib.hid hp3
  have HP1 := Lib.hid hp1
  have hil : i ≤ 1000 := by omega
  clear hp2 hp3 hp1
  obtain ⟨is, his⟩ : ∃ q, isP s.f4 ⟨r.f0, r.f1, z44⟩ i = q := ⟨_, rfl⟩
  have HIS := Lib.hid his
  clear his
  obtain ⟨n, hn⟩ : ∃ n, s.f4.length = n := ⟨_, rfl⟩
  rw [hn] at hra hca hla ⊢
  have HN := Lib.hid hn
  have HRA := Lib.hid hra
  have HVT := Lib.hid hvt
  clear hn hra hvt
  obtain ⟨W3, hW3⟩ : ∃ W, W = ((w.alloc (.cells #[.int .i64 s.f0, .int .i64 s.f1, .int .i64 s.f2, .int .i64 s.f3, .slice A n c] 28)).alloc (.cells #[.int .i64 r.f0, .int .i64 r.f1, .string r.f2] 50)).alloc (.cells #[.int .i64 0, .int .i64 0, .int .i64 0, .int .i64 0, .slice none 0 0] 28) := ⟨_, rfl⟩
  have h0 : W3.heap[w.heap.size]? = some (.cells #[.int .i64 s.f0, .int .i64 s.f1, .int .i64 s.f2, .int .i64 s.f3, .slice A n c] 28 (0, 0)) := by
    rw [hW3]
    exact blk_below (blk_below (heap_alloc_new w _) ((Below.refl _ _).alloc (Nat.le_refl _) _)) ((Below.refl _ _).alloc (Nat.le_refl _) _)
  have h1 : W3.heap[w.heap.size + 1]? = some (.cells #[.int .i64 r.f0, .int .i64 r.f1, .string r.f2] 50 (0, 0)) := by
    rw [hW3]
    have := blk_below (heap_alloc_new (w.alloc (.cells #[.int .i64 s.f0, .int .i64 s.f1, .int .i64 s.f2, .int .i64 s.f3, .slice A n c] 28)) (.cells #[.int .i64 r.f0, .int .i64 r.f1, .string r.f2] 50)) ((Below.refl _ _).alloc (Nat.le_refl _) (.cells #[.int .i64 0, .int .i64 0, .int .i64 0, .int .i64 0, .slice none 0 0] 28))
    simpa using this
  have h2 : W3.heap[w.heap.size + 2]? = some (.cells #[.int .i64 0, .int .i64 0, .int .i64 0, .int .i64 0, .slice none 0 0] 28 (0, 0)) := by
    rw [hW3]
    have := heap_alloc_new ((w.alloc (.cells #[.int .i64 s.f0, .int .i64 s.f1, .int .i64 s.f2, .int .i64 s.f3, .slice A n c] 28)).alloc (.cells #[.int .i64 r.f0, .int .i64 r.f1, .string r.f2] 50)) (.cells #[.int .i64 0, .int .i64 0, .int .i64 0, .int .i64 0, .slice none 0 0] 28)
    simpa using this
  have hbw : Below w.heap.size w W3 := by rw [hW3]; exact below_alloc (below_alloc (below_alloc (Below.refl _ _) _) _) _
  have HA3 := Lib.hid (ApW.mk h0 h1 h2 hbw : ApW w W3 s r A n c)
  have HW3 := Lib.hid hW3
  have y2 : W3.cell? ⟨w.heap.size + 1, 2, none⟩ = some (.string r.f2) := (blk_cell h1 2).trans rfl
  clear hW3 h0 h1 h2 hbw
  go_enter Try.func36, Try.ntmps36
  go_upto_region 1 with fail
  rw [← HW3.out]
  go_upto_region 5 with (first | (go_at_call 68; go_loud ((with_reducible refine (HVT.out _).mono ?_); rintro e w4 ⟨rfl, hb4⟩; have HB4 := Lib.hid hb4; have hq := blk_below HA3.out.b1 hb4; have y0 : w4.cell? ⟨w.heap.size + 1, 0, none⟩ = some (.int .i64 r.f0) := (blk_cell hq 0).trans rfl; have y1 : w4.cell? ⟨w.heap.size + 1, 1, none⟩ = some (.int .i64 r.f1) := (blk_cell hq 1).trans rfl; clear hq hb4)))
  obtain ⟨WI, hWI⟩ : ∃ W, W = w4.alloc (.cells #[.int .i64 r.f0, .int .i64 r.f1, .int .i64 0, .int .i64 0, .int .i64 0, .int .i64 0, .int .i64 0, .int .i64 0, .int .i64 0, .int .i64 0, .int .i64 0, .int .i64 0] 46) := ⟨_, rfl⟩
  rw [← hWI]
  have hba : Below w4.heap.size w4 WI := by rw [hWI]; exact (Below.refl _ _).alloc (Nat.le_refl _) _
  have hbi : Below W3.heap.size W3 WI := HB4.out.trans (hba.mono HB4.out.size)
  have HAI := Lib.hid (ApW.mk (blk_below HA3.out.b0 hbi) (blk_below HA3.out.b1 hbi) (blk_below HA3.out.b2 hbi) (HA3.out.bw.trans (hbi.mono HA3.out.bw.size)) : ApW w WI s r A n c)
  have hat : WI.heap[w4.heap.size]? = some (.cells #[.int .i64 r.f0, .int .i64 r.f1, .int .i64 0, .int .i64 0, .int .i64 0, .int .i64 0, .int .i64 0, .int .i64 0, .int .i64 0, .int .i64 0, .int .i64 0, .int .i64 0] 46 (0, 0)) := by rw [hWI]; exact heap_alloc_new _ _
  obtain ⟨ga, hga⟩ : ∃ g, w4.heap.size = g := ⟨_, rfl⟩
  have hgl : w.heap.size + 2 < ga := by
    have h1 := lt_of_block HA3.out.b2
    have h2 := HB4.out.size
    omega
  rw [hga] at hat ⊢
  have HAT := Lib.hid hat
  have HGL := Lib.hid hgl
  have hx4 : WI.cell? ⟨w.heap.size, 4, none⟩ = some (.slice A n c) := (blk_cell HAI.out.b0 4).trans rfl
  have HX4 := Lib.hid hx4
  have HT0 := Lib.hid (show WI.cell? ⟨ga, 0, none⟩ = some (.int .i64 r.f0) from (blk_cell hat 0).trans rfl)
  have HT1 := Lib.hid (show WI.cell? ⟨ga, 1, none⟩ = some (.int .i64 r.f1) from (blk_cell hat 1).trans rfl)
  have HT2 := Lib.hid (show WI.cell? ⟨ga, 2, none⟩ = some (.int .i64 0) from (blk_cell hat 2).trans rfl)
  have HT3 := Lib.hid (show WI.cell? ⟨ga, 3, none⟩ = some (.int .i64 0) from (blk_cell hat 3).trans rfl)
  have HT4 := Lib.hid (show WI.cell? ⟨ga, 4, none⟩ = some (.int .i64 0) from (blk_cell hat 4).trans rfl)
  have HT5 := Lib.hid (show WI.cell? ⟨ga, 5, none⟩ = some (.int .i64 0) from (blk_cell hat 5).trans rfl)
  have HT6 := Lib.hid (show WI.cell? ⟨ga, 6, none⟩ = some (.int .i64 0) from (blk_cell hat 6).trans rfl)
  have HT7 := Lib.hid (show WI.cell? ⟨ga, 7, none⟩ = some (.int .i64 0) from (blk_cell hat 7).trans rfl)
  have HT8 := Lib.hid (show WI.cell? ⟨ga, 8, none⟩ = some (.int .i64 0) from (blk_cell hat 8).trans rfl)
  have HT9 := Lib.hid (show WI.cell? ⟨ga, 9, none⟩ = some (.int .i64 0) from (blk_cell hat 9).trans rfl)
  have HT10 := Lib.hid (show WI.cell? ⟨ga, 10, none⟩ = some (.int .i64 0) from (blk_cell hat 10).trans rfl)
  have HT11 := Lib.hid (show WI.cell? ⟨ga, 11, none⟩ = some (.int .i64 0) from (blk_cell hat 11).trans rfl)
  clear hWI hba hbi hat hx4 y0 y1 y2 hga hgl
  go_upto_block 0 with fail
  go_cut [10] from 33 to 48 (fun v10 wc => v10 = .int .i64 (i : Int) ∧ Below WI.heap.size WI wc)
  case first =>
    go_wp2
    go_loopg [10] n (fun kq v10 WX => ∃ (j : Nat), v10 = .int .i64 (j : Int) ∧ j ≤ i ∧ n - j ≤ kq ∧ Below WI.heap.size WI WX)
    case atStart => exact ⟨0, rfl, Nat.zero_le _, by omega, Below.refl _ _⟩
    case round =>
      obtain ⟨j, rfl, hji, hjk, hbr⟩ := hrel
      obtain ⟨WX, hWX⟩ : ∃ W, W = wr := ⟨_, rfl⟩
      subst hWX
      have HBR := Lib.hid hbr
      clear hbr
      have hin : i ≤ n := by have h1 := HP1.out; have h2 := HN.out; omega
      by_cases hj : j < n
      rotate_left
      · have d1 : decide ((j : Int) < (n : Int)) = false := decide_eq_false (by omega)
        obtain rfl : j = i := by omega
        go_wp2
        refine wp_region_held_drew (S := fun w_ => Below WX.heap.size WX w_) (by kernel_rfl) (below_drew (Below.refl _ _)) (fun hS_ => ?_)
        have hS : Below WX.heap.size WX _ := hS_
        clear hS_
        change wpAnyH _ _ _ _ _ 14 #[false, false, false, false, false, false, false, false, false, false, false, false, false, false] _ _
        refine takeE 0 (some 33) #[true, false, false, false, false, false, false, false, false, false, false, false, false, false] hS ?_
        refine takeE 1 (some 34) #[true, true, false, false, false, false, false, false, false, false, false, false, false, false] hS ?_
        refine takeE 2 (some 35) #[true, true, true, false, false, false, false, false, false, false, false, false, false, false] hS ?_ (hy := fun w_ hS_ => by (replace hS_ : Below WX.heap.size WX w_ := hS_); have x0_ := below_cell (Below.trans HBR.out (hS_.mono HBR.out.size)) HX4.out; go_simp <;> with_reducible rfl)
        refine doD (i := 3) (ls2 := #[true, true, true, true, false, false, false, false, false, false, false, false, false, false]) (by kernel_rfl) rfl (by kernel_rfl) (by kernel_rfl) (fun K hK => ?_)
        go_simp
        refine hK.out _ _ ?_ (fun hS_ => ?_)
        · show Below WX.heap.size WX _
          exact hS
        clear hK K hS
        have hS : Below WX.heap.size WX _ := hS_
        clear hS_
        refine takeE 4 (some 37) #[true, true, true, true, true, false, false, false, false, false, false, false, false, false] hS ?_
        refine takeE 5 (some 38) #[true, true, true, true, true, true, false, false, false, false, false, false, false, false] hS ?_
        refine offE 6 (some 39) #[true, true, true, true, true, true, true, false, false, false, false, false, false, false] hS ?_
        refine offE 7 (some 40) #[true, true, true, true, true, true, true, true, false, false, false, false, false, false] hS ?_
        refine offE 8 (some 41) #[true, true, true, true, true, true, true, true, true, false, false, false, false, false] hS ?_
        refine offE 9 (some 42) #[true, true, true, true, true, true, true, true, true, true, false, false, false, false] hS ?_
        refine offE 10 (some 43) #[true, true, true, true, true, true, true, true, true, true, true, false, false, false] hS ?_
        refine offE 11 (some 44) #[true, true, true, true, true, true, true, true, true, true, true, true, false, false] hS ?_
        refine offE 12 (some 45) #[true, true, true, true, true, true, true, true, true, true, true, true, true, false] hS ?_
        refine takeE 13 (some 46) #[true, true, true, true, true, true, true, true, true, true, true, true, true, true] hS ?_
        refine wpAnyH_done (by kernel_rfl) ?_ _
        try go_simp
        have HSS := Lib.hid hS
        clear hS
        go_wp2
        go_meet
        case rel => exact ⟨rfl, HBR.out.trans (HSS.out.mono HBR.out.size)⟩
      · have d1 : decide ((j : Int) < (n : Int)) = true := decide_eq_true (by omega)
        have hbj : (0 : Int) ≤ (j : Int) ∧ (j : Int) < (n : Int) := by omega
        have hwj : IntKind.i64.wrap ((j : Int) + 1) = ((j + 1 : Nat) : Int) := by rw [IntKind.wrap_i64]; omega
        obtain ⟨adx, had, x0, x1, x2, x3, x4, x5, x6, x7, x8, x9, x10, x11⟩ := at_T46 (Kd.C_below HRA.out HAI.out.bw) (j : Int) (by omega) (by omega)
        cases had
        rw [Int.toNat_natCast] at x0 x1 x2 x3 x4 x5 x6 x7 x8 x9 x10 x11
        obtain ⟨x, hx⟩ : ∃ x, rd_T46 s.f4 (j : Int) = x := ⟨_, rfl⟩
        rw [hx] at x0 x1 x2 x3 x4 x5 x6 x7 x8 x9 x10 x11
        have HXE := Lib.hid hx
        have HX_0 := Lib.hid x0
        have HX_1 := Lib.hid x1
        have HX_2 := Lib.hid x2
        have HX_3 := Lib.hid x3
        have HX_4 := Lib.hid x4
        have HX_5 := Lib.hid x5
        have HX_6 := Lib.hid x6
        have HX_7 := Lib.hid x7
        have HX_8 := Lib.hid x8
        have HX_9 := Lib.hid x9
        have HX_10 := Lib.hid x10
        have HX_11 := Lib.hid x11
        clear x0 x1 x2 x3 x4 x5 x6 x7 x8 x9 x10 x11 hx
        have hax : ∀ w, Calls Try.prog 61 #[cellV x, (.agg #[.int .i64 r.f0, .int .i64 r.f1, .int .i64 0, .int .i64 0, .int .i64 0, .int .i64 0, .int .i64 0, .int .i64 0, .int .i64 0, .int .i64 0, .int .i64 0, .int .i64 0])] w fun e w' => e = .returned (.bool (aheadB x ⟨r.f0, r.f1, z44⟩)) ∧ Below w.heap.size w w' := fun w => ahead_calls x ⟨r.f0, r.f1, z44⟩ w
        cases gk with
        | zero => omega
        | succ gk =>
        go_wp2
        by_cases hji2 : j < i
        · have hq1 : aheadB x ⟨r.f0, r.f1, z44⟩ = true := by rw [← HXE.out]; exact HP2.out j hji2
          rw [hq1] at hax
          have HAX := Lib.hid hax
          clear hax hq1
          refine wp_region_held_drew (S := fun w_ => Below WX.heap.size WX w_) (by kernel_rfl) (below_drew (Below.refl _ _)) (fun hS_ => ?_)
          have hS : Below WX.heap.size WX _ := hS_
          clear hS_
          change wpAnyH _ _ _ _ _ 14 #[false, false, false, false, false, false, false, false, false, false, false, false, false, false] _ _
          refine takeE 0 (some 33) #[true, false, false, false, false, false, false, false, false, false, false, false, false, false] hS ?_
          refine takeE 1 (some 34) #[true, true, false, false, false, false, false, false, false, false, false, false, false, false] hS ?_
          refine takeE 2 (some 35) #[true, true, true, false, false, false, false, false, false, false, false, false, false, false] hS ?_ (hy := fun w_ hS_ => by (replace hS_ : Below WX.heap.size WX w_ := hS_); have x0_ := below_cell (Below.trans HBR.out (hS_.mono HBR.out.size)) HX4.out; go_simp <;> with_reducible rfl)
          refine doD (i := 3) (ls2 := #[true, true, true, true, false, false, false, false, false, false, false, false, false, false]) (by kernel_rfl) rfl (by kernel_rfl) (by kernel_rfl) (fun K hK => ?_)
          go_simp
          refine hK.out _ _ ?_ (fun hS_ => ?_)
          · show Below WX.heap.size WX _
            exact hS
          clear hK K hS
          have hS : Below WX.heap.size WX _ := hS_
          clear hS_
          refine takeE 4 (some 37) #[true, true, true, true, true, false, false, false, false, false, false, false, false, false] hS ?_
          refine takeE 5 (some 38) #[true, true, true, true, true, true, false, false, false, false, false, false, false, false] hS ?_
          refine takeE 6 (some 39) #[true, true, true, true, true, true, true, false, false, false, false, false, false, false] hS ?_
          refine takeE 7 (some 40) #[true, true, true, true, true, true, true, true, false, false, false, false, false, false] hS ?_ (hy := fun w_ hS_ => by (replace hS_ : Below WX.heap.size WX w_ := hS_); have x0_ := below_cell (Below.trans HBR.out (hS_.mono HBR.out.size)) HX4.out; go_simp <;> with_reducible rfl)
          refine takeE 8 (some 41) #[true, true, true, true, true, true, true, true, true, false, false, false, false, false] hS ?_
          refine takeE 9 (some 42) #[true, true, true, true, true, true, true, true, true, true, false, false, false, false] hS ?_
          refine takeE 10 (some 43) #[true, true, true, true, true, true, true, true, true, true, true, false, false, false] hS ?_ (hy := fun w_ hS_ => by (replace hS_ : Below WX.heap.size WX w_ := hS_); have x0_ := below_cell (Below.trans HBR.out (hS_.mono HBR.out.size)) HX_0.out; have x1_ := below_cell (Below.trans HBR.out (hS_.mono HBR.out.size)) HX_1.out; have x2_ := below_cell (Below.trans HBR.out (hS_.mono HBR.out.size)) HX_2.out; have x3_ := below_cell (Below.trans HBR.out (hS_.mono HBR.out.size)) HX_3.out; have x4_ := below_cell (Below.trans HBR.out (hS_.mono HBR.out.size)) HX_4.out; have x5_ := below_cell (Below.trans HBR.out (hS_.mono HBR.out.size)) HX_5.out; have x6_ := below_cell (Below.trans HBR.out (hS_.mono HBR.out.size)) HX_6.out; have x7_ := below_cell (Below.trans HBR.out (hS_.mono HBR.out.size)) HX_7.out; have x8_ := below_cell (Below.trans HBR.out (hS_.mono HBR.out.size)) HX_8.out; have x9_ := below_cell (Below.trans HBR.out (hS_.mono HBR.out.size)) HX_9.out; have x10_ := below_cell (Below.trans HBR.out (hS_.mono HBR.out.size)) HX_10.out; have x11_ := below_cell (Below.trans HBR.out (hS_.mono HBR.out.size)) HX_11.out; go_simp <;> with_reducible rfl)
          refine takeE 11 (some 44) #[true, true, true, true, true, true, true, true, true, true, true, true, false, false] hS ?_ (hy := fun w_ hS_ => by (replace hS_ : Below WX.heap.size WX w_ := hS_); have x0_ := below_cell (Below.trans HBR.out (hS_.mono HBR.out.size)) HT0.out; have x1_ := below_cell (Below.trans HBR.out (hS_.mono HBR.out.size)) HT1.out; have x2_ := below_cell (Below.trans HBR.out (hS_.mono HBR.out.size)) HT2.out; have x3_ := below_cell (Below.trans HBR.out (hS_.mono HBR.out.size)) HT3.out; have x4_ := below_cell (Below.trans HBR.out (hS_.mono HBR.out.size)) HT4.out; have x5_ := below_cell (Below.trans HBR.out (hS_.mono HBR.out.size)) HT5.out; have x6_ := below_cell (Below.trans HBR.out (hS_.mono HBR.out.size)) HT6.out; have x7_ := below_cell (Below.trans HBR.out (hS_.mono HBR.out.size)) HT7.out; have x8_ := below_cell (Below.trans HBR.out (hS_.mono HBR.out.size)) HT8.out; have x9_ := below_cell (Below.trans HBR.out (hS_.mono HBR.out.size)) HT9.out; have x10_ := below_cell (Below.trans HBR.out (hS_.mono HBR.out.size)) HT10.out; have x11_ := below_cell (Below.trans HBR.out (hS_.mono HBR.out.size)) HT11.out; go_simp <;> with_reducible rfl)
          refine doD (i := 12) (ls2 := #[true, true, true, true, true, true, true, true, true, true, true, true, true, false]) (by kernel_rfl) rfl (by kernel_rfl) (by kernel_rfl) (fun K hK => ?_)
          go_simp
          go_wp2_with (first | (go_at_call 61; go_loud ((with_reducible refine (HAX.out _).mono ?_); rintro e w6 ⟨rfl, hb6⟩)))
          refine hK.out _ _ ?_ (fun hS_ => ?_)
          · show Below WX.heap.size WX _
            exact hS.trans (hb6.mono hS.size)
          clear hK K hS hb6
          have hS : Below WX.heap.size WX _ := hS_
          clear hS_
          refine takeE 13 (some 46) #[true, true, true, true, true, true, true, true, true, true, true, true, true, true] hS ?_
          refine wpAnyH_done (by kernel_rfl) ?_ _
          try go_simp
          have HSS := Lib.hid hS
          clear hS
          go_wp2
          go_roundg gk
          case measure => omega
          case rel => exact ⟨j + 1, by first | rfl | (congr 1), by omega, by omega, HBR.out.trans (HSS.out.mono HBR.out.size)⟩
        · obtain rfl : j = i := by omega
          have hq1 : aheadB x ⟨r.f0, r.f1, z44⟩ = false := by rw [← HXE.out]; exact HP3.out (by have := HN.out; omega)
          rw [hq1] at hax
          have HAX := Lib.hid hax
          clear hax hq1
          refine wp_region_held_drew (S := fun w_ => Below WX.heap.size WX w_) (by kernel_rfl) (below_drew (Below.refl _ _)) (fun hS_ => ?_)
          have hS : Below WX.heap.size WX _ := hS_
          clear hS_
          change wpAnyH _ _ _ _ _ 14 #[false, false, false, false, false, false, false, false, false, false, false, false, false, false] _ _
          refine takeE 0 (some 33) #[true, false, false, false, false, false, false, false, false, false, false, false, false, false] hS ?_
          refine takeE 1 (some 34) #[true, true, false, false, false, false, false, false, false, false, false, false, false, false] hS ?_
          refine takeE 2 (some 35) #[true, true, true, false, false, false, false, false, false, false, false, false, false, false] hS ?_ (hy := fun w_ hS_ => by (replace hS_ : Below WX.heap.size WX w_ := hS_); have x0_ := below_cell (Below.trans HBR.out (hS_.mono HBR.out.size)) HX4.out; go_simp <;> with_reducible rfl)
          refine doD (i := 3) (ls2 := #[true, true, true, true, false, false, false, false, false, false, false, false, false, false]) (by kernel_rfl) rfl (by kernel_rfl) (by kernel_rfl) (fun K hK => ?_)
          go_simp
          refine hK.out _ _ ?_ (fun hS_ => ?_)
          · show Below WX.heap.size WX _
            exact hS
          clear hK K hS
          have hS : Below WX.heap.size WX _ := hS_
          clear hS_
          refine takeE 4 (some 37) #[true, true, true, true, true, false, false, false, false, false, false, false, false, false] hS ?_
          refine takeE 5 (some 38) #[true, true, true, true, true, true, false, false, false, false, false, false, false, false] hS ?_
          refine takeE 6 (some 39) #[true, true, true, true, true, true, true, false, false, false, false, false, false, false] hS ?_
          refine takeE 7 (some 40) #[true, true, true, true, true, true, true, true, false, false, false, false, false, false] hS ?_ (hy := fun w_ hS_ => by (replace hS_ : Below WX.heap.size WX w_ := hS_); have x0_ := below_cell (Below.trans HBR.out (hS_.mono HBR.out.size)) HX4.out; go_simp <;> with_reducible rfl)
          refine takeE 8 (some 41) #[true, true, true, true, true, true, true, true, true, false, false, false, false, false] hS ?_
          refine takeE 9 (some 42) #[true, true, true, true, true, true, true, true, true, true, false, false, false, false] hS ?_
          refine takeE 10 (some 43) #[true, true, true, true, true, true, true, true, true, true, true, false, false, false] hS ?_ (hy := fun w_ hS_ => by (replace hS_ : Below WX.heap.size WX w_ := hS_); have x0_ := below_cell (Below.trans HBR.out (hS_.mono HBR.out.size)) HX_0.out; have x1_ := below_cell (Below.trans HBR.out (hS_.mono HBR.out.size)) HX_1.out; have x2_ := below_cell (Below.trans HBR.out (hS_.mono HBR.out.size)) HX_2.out; have x3_ := below_cell (Below.trans HBR.out (hS_.mono HBR.out.size)) HX_3.out; have x4_ := below_cell (Below.trans HBR.out (hS_.mono HBR.out.size)) HX_4.out; have x5_ := below_cell (Below.trans HBR.out (hS_.mono HBR.out.size)) HX_5.out; have x6_ := below_cell (Below.trans HBR.out (hS_.mono HBR.out.size)) HX_6.out; have x7_ := below_cell (Below.trans HBR.out (hS_.mono HBR.out.size)) HX_7.out; have x8_ := below_cell (Below.trans HBR.out (hS_.mono HBR.out.size)) HX_8.out; have x9_ := below_cell (Below.trans HBR.out (hS_.mono HBR.out.size)) HX_9.out; have x10_ := below_cell (Below.trans HBR.out (hS_.mono HBR.out.size)) HX_10.out; have x11_ := below_cell (Below.trans HBR.out (hS_.mono HBR.out.size)) HX_11.out; go_simp <;> with_reducible rfl)
          refine takeE 11 (some 44) #[true, true, true, true, true, true, true, true, true, true, true, true, false, false] hS ?_ (hy := fun w_ hS_ => by (replace hS_ : Below WX.heap.size WX w_ := hS_); have x0_ := below_cell (Below.trans HBR.out (hS_.mono HBR.out.size)) HT0.out; have x1_ := below_cell (Below.trans HBR.out (hS_.mono HBR.out.size)) HT1.out; have x2_ := below_cell (Below.trans HBR.out (hS_.mono HBR.out.size)) HT2.out; have x3_ := below_cell (Below.trans HBR.out (hS_.mono HBR.out.size)) HT3.out; have x4_ := below_cell (Below.trans HBR.out (hS_.mono HBR.out.size)) HT4.out; have x5_ := below_cell (Below.trans HBR.out (hS_.mono HBR.out.size)) HT5.out; have x6_ := below_cell (Below.trans HBR.out (hS_.mono HBR.out.size)) HT6.out; have x7_ := below_cell (Below.trans HBR.out (hS_.mono HBR.out.size)) HT7.out; have x8_ := below_cell (Below.trans HBR.out (hS_.mono HBR.out.size)) HT8.out; have x9_ := below_cell (Below.trans HBR.out (hS_.mono HBR.out.size)) HT9.out; have x10_ := below_cell (Below.trans HBR.out (hS_.mono HBR.out.size)) HT10.out; have x11_ := below_cell (Below.trans HBR.out (hS_.mono HBR.out.size)) HT11.out; go_simp <;> with_reducible rfl)
          refine doD (i := 12) (ls2 := #[true, true, true, true, true, true, true, true, true, true, true, true, true, false]) (by kernel_rfl) rfl (by kernel_rfl) (by kernel_rfl) (fun K hK => ?_)
          go_simp
          go_wp2_with (first | (go_at_call 61; go_loud ((with_reducible refine (HAX.out _).mono ?_); rintro e w6 ⟨rfl, hb6⟩)))
          refine hK.out _ _ ?_ (fun hS_ => ?_)
          · show Below WX.heap.size WX _
            exact hS.trans (hb6.mono hS.size)
          clear hK K hS hb6
          have hS : Below WX.heap.size WX _ := hS_
          clear hS_
          refine takeE 13 (some 46) #[true, true, true, true, true, true, true, true, true, true, true, true, true, true] hS ?_
          refine wpAnyH_done (by kernel_rfl) ?_ _
          try go_simp
          have HSS := Lib.hid hS
          clear hS
          go_wp2
          go_meet
          case rel => exact ⟨rfl, HBR.out.trans (HSS.out.mono HBR.out.size)⟩
  case rest =>
    obtain ⟨rfl, hbr⟩ := hcut
    obtain ⟨WX, hWX⟩ : ∃ W, W = wc := ⟨_, rfl⟩
    subst hWX
    have HBR := Lib.hid hbr
    clear hbr
    have hin : i ≤ n := by have h1 := HP1.out; have h2 := HN.out; omega
    go_upto_region 8 with fail
    go_cut [11] from 49 to 63 (fun v11 wc => v11 = .bool is ∧ Below WI.heap.size WI wc)
    case first =>
      by_cases hj : i < n
      rotate_left
      · have d1 : decide ((i : Int) < (n : Int)) = false := decide_eq_false (by omega)
        have hisf : is = false := by rw [← HIS.out]; unfold isP; rw [decide_eq_false (by have := HN.out; omega)]; rfl
        subst hisf
        refine wp_region_held_drew (S := fun w_ => Below WX.heap.size WX w_) (by kernel_rfl) (below_drew (Below.refl _ _)) (fun hS_ => ?_)
        have hS : Below WX.heap.size WX _ := hS_
        clear hS_
        change wpAnyH _ _ _ _ _ 16 #[false, false, false, false, false, false, false, false, false, false, false, false, false, false, false, false] _ _
        refine takeE 0 (some 49) #[true, false, false, false, false, false, false, false, false, false, false, false, false, false, false, false] hS ?_
        refine takeE 1 (some 50) #[true, true, false, false, false, false, false, false, false, false, false, false, false, false, false, false] hS ?_
        refine takeE 2 (some 51) #[true, true, true, false, false, false, false, false, false, false, false, false, false, false, false, false] hS ?_ (hy := fun w_ hS_ => by (replace hS_ : Below WX.heap.size WX w_ := hS_); have x0_ := below_cell (Below.trans HBR.out (hS_.mono HBR.out.size)) HX4.out; go_simp <;> with_reducible rfl)
        refine doD (i := 3) (ls2 := #[true, true, true, true, false, false, false, false, false, false, false, false, false, false, false, false]) (by kernel_rfl) rfl (by kernel_rfl) (by kernel_rfl) (fun K hK => ?_)
        go_simp
        refine hK.out _ _ ?_ (fun hS_ => ?_)
        · show Below WX.heap.size WX _
          exact hS
        clear hK K hS
        have hS : Below WX.heap.size WX _ := hS_
        clear hS_
        refine takeE 4 (some 53) #[true, true, true, true, true, false, false, false, false, false, false, false, false, false, false, false] hS ?_
        refine takeE 5 (some 54) #[true, true, true, true, true, true, false, false, false, false, false, false, false, false, false, false] hS ?_
        refine offE 6 (some 55) #[true, true, true, true, true, true, true, false, false, false, false, false, false, false, false, false] hS ?_
        refine offE 7 (some 56) #[true, true, true, true, true, true, true, true, false, false, false, false, false, false, false, false] hS ?_
        refine offE 8 (some 57) #[true, true, true, true, true, true, true, true, true, false, false, false, false, false, false, false] hS ?_
        refine offE 9 (some 58) #[true, true, true, true, true, true, true, true, true, true, false, false, false, false, false, false] hS ?_
        refine offE 10 (some 59) #[true, true, true, true, true, true, true, true, true, true, true, false, false, false, false, false] hS ?_
        refine offE 11 (some 60) #[true, true, true, true, true, true, true, true, true, true, true, true, false, false, false, false] hS ?_
        refine offE 12 (some 61) #[true, true, true, true, true, true, true, true, true, true, true, true, true, false, false, false] hS ?_
        refine offE 13 (some 62) #[true, true, true, true, true, true, true, true, true, true, true, true, true, true, false, false] hS ?_
        refine takeE 14 (some 63) #[true, true, true, true, true, true, true, true, true, true, true, true, true, true, true, false] hS ?_
        refine takeE 15 (some 11) #[true, true, true, true, true, true, true, true, true, true, true, true, true, true, true, true] hS ?_
        refine wpAnyH_done (by kernel_rfl) ?_ _
        try go_simp
        have HSS := Lib.hid hS
        clear hS
        go_wp2
        go_meet
        case rel => exact ⟨rfl, HBR.out.trans (HSS.out.mono HBR.out.size)⟩
      · have d1 : decide ((i : Int) < (n : Int)) = true := decide_eq_true (by omega)
        have hbj : (0 : Int) ≤ (i : Int) ∧ (i : Int) < (n : Int) := by omega
        obtain ⟨adx, had, x0, x1, x2, x3, x4, x5, x6, x7, x8, x9, x10, x11⟩ := at_T46 (Kd.C_below HRA.out HAI.out.bw) (i : Int) (by omega) (by omega)
        cases had
        rw [Int.toNat_natCast] at x0 x1 x2 x3 x4 x5 x6 x7 x8 x9 x10 x11
        obtain ⟨x, hx⟩ : ∃ x, rd_T46 s.f4 (i : Int) = x := ⟨_, rfl⟩
        rw [hx] at x0 x1 x2 x3 x4 x5 x6 x7 x8 x9 x10 x11
        have HXE := Lib.hid hx
        have HX_0 := Lib.hid x0
        have HX_1 := Lib.hid x1
        have HX_2 := Lib.hid x2
        have HX_3 := Lib.hid x3
        have HX_4 := Lib.hid x4
        have HX_5 := Lib.hid x5
        have HX_6 := Lib.hid x6
        have HX_7 := Lib.hid x7
        have HX_8 := Lib.hid x8
        have HX_9 := Lib.hid x9
        have HX_10 := Lib.hid x10
        have HX_11 := Lib.hid x11
        clear x0 x1 x2 x3 x4 x5 x6 x7 x8 x9 x10 x11 hx
        have hax : ∀ w, Calls Try.prog 61 #[(.agg #[.int .i64 r.f0, .int .i64 r.f1, .int .i64 0, .int .i64 0, .int .i64 0, .int .i64 0, .int .i64 0, .int .i64 0, .int .i64 0, .int .i64 0, .int .i64 0, .int .i64 0]), cellV x] w fun e w' => e = .returned (.bool (aheadB ⟨r.f0, r.f1, z44⟩ x)) ∧ Below w.heap.size w w' := fun w => ahead_calls ⟨r.f0, r.f1, z44⟩ x w
        have hise : is = !aheadB ⟨r.f0, r.f1, z44⟩ x := by rw [← HIS.out]; unfold isP; rw [decide_eq_true (by have := HN.out; omega), HXE.out]; rfl
        obtain ⟨q1, hq1⟩ : ∃ q, aheadB ⟨r.f0, r.f1, z44⟩ x = q := ⟨_, rfl⟩
        rw [hq1] at hax hise
        subst hise
        have HAX := Lib.hid hax
        clear hax hq1
        refine wp_region_held_drew (S := fun w_ => Below WX.heap.size WX w_) (by kernel_rfl) (below_drew (Below.refl _ _)) (fun hS_ => ?_)
        have hS : Below WX.heap.size WX _ := hS_
        clear hS_
        change wpAnyH _ _ _ _ _ 16 #[false, false, false, false, false, false, false, false, false, false, false, false, false, false, false, false] _ _
        refine takeE 0 (some 49) #[true, false, false, false, false, false, false, false, false, false, false, false, false, false, false, false] hS ?_
        refine takeE 1 (some 50) #[true, true, false, false, false, false, false, false, false, false, false, false, false, false, false, false] hS ?_
        refine takeE 2 (some 51) #[true, true, true, false, false, false, false, false, false, false, false, false, false, false, false, false] hS ?_ (hy := fun w_ hS_ => by (replace hS_ : Below WX.heap.size WX w_ := hS_); have x0_ := below_cell (Below.trans HBR.out (hS_.mono HBR.out.size)) HX4.out; go_simp <;> with_reducible rfl)
        refine doD (i := 3) (ls2 := #[true, true, true, true, false, false, false, false, false, false, false, false, false, false, false, false]) (by kernel_rfl) rfl (by kernel_rfl) (by kernel_rfl) (fun K hK => ?_)
        go_simp
        refine hK.out _ _ ?_ (fun hS_ => ?_)
        · show Below WX.heap.size WX _
          exact hS
        clear hK K hS
        have hS : Below WX.heap.size WX _ := hS_
        clear hS_
        refine takeE 4 (some 53) #[true, true, true, true, true, false, false, false, false, false, false, false, false, false, false, false] hS ?_
        refine takeE 5 (some 54) #[true, true, true, true, true, true, false, false, false, false, false, false, false, false, false, false] hS ?_
        refine takeE 6 (some 55) #[true, true, true, true, true, true, true, false, false, false, false, false, false, false, false, false] hS ?_ (hy := fun w_ hS_ => by (replace hS_ : Below WX.heap.size WX w_ := hS_); have x0_ := below_cell (Below.trans HBR.out (hS_.mono HBR.out.size)) HT0.out; have x1_ := below_cell (Below.trans HBR.out (hS_.mono HBR.out.size)) HT1.out; have x2_ := below_cell (Below.trans HBR.out (hS_.mono HBR.out.size)) HT2.out; have x3_ := below_cell (Below.trans HBR.out (hS_.mono HBR.out.size)) HT3.out; have x4_ := below_cell (Below.trans HBR.out (hS_.mono HBR.out.size)) HT4.out; have x5_ := below_cell (Below.trans HBR.out (hS_.mono HBR.out.size)) HT5.out; have x6_ := below_cell (Below.trans HBR.out (hS_.mono HBR.out.size)) HT6.out; have x7_ := below_cell (Below.trans HBR.out (hS_.mono HBR.out.size)) HT7.out; have x8_ := below_cell (Below.trans HBR.out (hS_.mono HBR.out.size)) HT8.out; have x9_ := below_cell (Below.trans HBR.out (hS_.mono HBR.out.size)) HT9.out; have x10_ := below_cell (Below.trans HBR.out (hS_.mono HBR.out.size)) HT10.out; have x11_ := below_cell (Below.trans HBR.out (hS_.mono HBR.out.size)) HT11.out; go_simp <;> with_reducible rfl)
        refine takeE 7 (some 56) #[true, true, true, true, true, true, true, true, false, false, false, false, false, false, false, false] hS ?_
        refine takeE 8 (some 57) #[true, true, true, true, true, true, true, true, true, false, false, false, false, false, false, false] hS ?_ (hy := fun w_ hS_ => by (replace hS_ : Below WX.heap.size WX w_ := hS_); have x0_ := below_cell (Below.trans HBR.out (hS_.mono HBR.out.size)) HX4.out; go_simp <;> with_reducible rfl)
        refine takeE 9 (some 58) #[true, true, true, true, true, true, true, true, true, true, false, false, false, false, false, false] hS ?_
        refine takeE 10 (some 59) #[true, true, true, true, true, true, true, true, true, true, true, false, false, false, false, false] hS ?_
        refine takeE 11 (some 60) #[true, true, true, true, true, true, true, true, true, true, true, true, false, false, false, false] hS ?_ (hy := fun w_ hS_ => by (replace hS_ : Below WX.heap.size WX w_ := hS_); have x0_ := below_cell (Below.trans HBR.out (hS_.mono HBR.out.size)) HX_0.out; have x1_ := below_cell (Below.trans HBR.out (hS_.mono HBR.out.size)) HX_1.out; have x2_ := below_cell (Below.trans HBR.out (hS_.mono HBR.out.size)) HX_2.out; have x3_ := below_cell (Below.trans HBR.out (hS_.mono HBR.out.size)) HX_3.out; have x4_ := below_cell (Below.trans HBR.out (hS_.mono HBR.out.size)) HX_4.out; have x5_ := below_cell (Below.trans HBR.out (hS_.mono HBR.out.size)) HX_5.out; have x6_ := below_cell (Below.trans HBR.out (hS_.mono HBR.out.size)) HX_6.out; have x7_ := below_cell (Below.trans HBR.out (hS_.mono HBR.out.size)) HX_7.out; have x8_ := below_cell (Below.trans HBR.out (hS_.mono HBR.out.size)) HX_8.out; have x9_ := below_cell (Below.trans HBR.out (hS_.mono HBR.out.size)) HX_9.out; have x10_ := below_cell (Below.trans HBR.out (hS_.mono HBR.out.size)) HX_10.out; have x11_ := below_cell (Below.trans HBR.out (hS_.mono HBR.out.size)) HX_11.out; go_simp <;> with_reducible rfl)
        refine doD (i := 12) (ls2 := #[true, true, true, true, true, true, true, true, true, true, true, true, true, false, false, false]) (by kernel_rfl) rfl (by kernel_rfl) (by kernel_rfl) (fun K hK => ?_)
        go_simp
        go_wp2_with (first | (go_at_call 61; go_loud ((with_reducible refine (HAX.out _).mono ?_); rintro e w6 ⟨rfl, hb6⟩)))
        refine hK.out _ _ ?_ (fun hS_ => ?_)
        · show Below WX.heap.size WX _
          exact hS.trans (hb6.mono hS.size)
        clear hK K hS hb6
        have hS : Below WX.heap.size WX _ := hS_
        clear hS_
        refine takeE 13 (some 62) #[true, true, true, true, true, true, true, true, true, true, true, true, true, true, false, false] hS ?_
        refine takeE 14 (some 63) #[true, true, true, true, true, true, true, true, true, true, true, true, true, true, true, false] hS ?_
        refine takeE 15 (some 11) #[true, true, true, true, true, true, true, true, true, true, true, true, true, true, true, true] hS ?_
        refine wpAnyH_done (by kernel_rfl) ?_ _
        try go_simp
        have HSS := Lib.hid hS
        clear hS
        go_wp2
        go_meet
        case rel => exact ⟨rfl, HBR.out.trans (HSS.out.mono HBR.out.size)⟩
    case rest =>
      obtain ⟨rfl, hbr2⟩ := hcut
      obtain ⟨WY, hWY⟩ : ∃ W, W = wc := ⟨_, rfl⟩
      subst hWY
      clear HBR
      have HBR := Lib.hid hbr2
      have hx4 := below_cell hbr2 HX4.out
      have hcl := clone2_calls A c s.f4 WY (by have h := Kd.C_below HRA.out (HAI.out.bw.trans (hbr2.mono HAI.out.bw.size)); rw [← HN.out] at h; exact h) (by have := HN.out; omega) (by have := HN.out; omega)
      rw [HN.out] at hcl
      have HCL := Lib.hid hcl
      clear hcl hbr2
      go_upto_region 11 with (first | (go_at_call 42; go_loud ((with_reducible refine HCL.out.mono ?_); rintro e w9 ⟨v9, rfl, hR9, hb9⟩; obtain ⟨A12, c12, hv9, hc12, _⟩ := Kd.R_reads hR9; rw [HN.out] at hv9; subst hv9; have HR9 := Lib.hid hR9; have HB9 := Lib.hid hb9; clear hR9 hb9)))
      have hbi9 : Below WI.heap.size WI w9 := HBR.out.trans (HB9.out.mono HBR.out.size)
      have HA9 := Lib.hid (ApW.mk (blk_below HAI.out.b0 hbi9) (blk_below HAI.out.b1 hbi9) (blk_below HAI.out.b2 hbi9) (HAI.out.bw.trans (hbi9.mono HAI.out.bw.size)) : ApW w w9 s r A n c)
      have hwyl : w.heap.size + 2 < WY.heap.size ∧ ga < WY.heap.size := by
        have h1 := lt_of_block (blk_below HAI.out.b2 HBR.out)
        have h2 := lt_of_block (blk_below HAT.out HBR.out)
        omega
      have HWYL := Lib.hid hwyl
      have HAT9 := Lib.hid (blk_below HAT.out hbi9)
      have HRB9 := Lib.hid (R_base HR9.out (show w.heap.size ≤ WY.heap.size by omega) (Nat.le_refl _))
      clear hbi9 hwyl hx4
      go_upto_region 15 with (first | (go_at_call 69; go_loud ((with_reducible refine (HTA.out _).mono ?_); rintro e w10 ⟨v13, rfl, hR13, hb10⟩; obtain ⟨g, c13, rfl, hgb, hgl, cells, hcs⟩ := Kd.R_form hR13 (Nat.zero_lt_succ 3); have hC13 := (Kd.R_reads' hR13).2.2; have hc0 : cells[0]? = some (.int .i64 m) := (blk_cell hcs 0).symm.trans (by obtain ⟨ad', e', hx⟩ := Kd.at_int hC13 0 (by decide) (show (0 : Int) < ((4 : Nat) : Int) by decide); cases e'; exact hx); have HC0 := Lib.hid hc0; clear hc0; have hc1 : cells[1]? = some (.int .i64 la) := (blk_cell hcs 1).symm.trans (by obtain ⟨ad', e', hx⟩ := Kd.at_int hC13 1 (by decide) (show (1 : Int) < ((4 : Nat) : Int) by decide); cases e'; exact hx); have HC1 := Lib.hid hc1; clear hc1; have hc2 : cells[2]? = some (.int .i64 ba) := (blk_cell hcs 2).symm.trans (by obtain ⟨ad', e', hx⟩ := Kd.at_int hC13 2 (by decide) (show (2 : Int) < ((4 : Nat) : Int) by decide); cases e'; exact hx); have HC2 := Lib.hid hc2; clear hc2; have hc3 : cells[3]? = some (.int .i64 nn) := (blk_cell hcs 3).symm.trans (by obtain ⟨ad', e', hx⟩ := Kd.at_int hC13 3 (by decide) (show (3 : Int) < ((4 : Nat) : Int) by decide); cases e'; exact hx); have HC3 := Lib.hid hc3; clear hc3; have HCS := Lib.hid hcs; have HG := Lib.hid hgb; have HRB10 := Lib.hid (Kd.R_below HRB9.out hb10); have HB10b := Lib.hid (blk_below HA9.out.b0 hb10); have HB10c := Lib.hid (blk_below HA9.out.b2 hb10); have HB10 := Lib.hid hb10; have q1 := blk_below HA9.out.b1 hb10; have y0 : w10.cell? ⟨w.heap.size + 1, 0, none⟩ = some (.int .i64 0) := ((blk_cell q1 0).trans rfl).trans (congrArg (fun v => some (Value.int .i64 v)) HK0.out); have y1 : w10.cell? ⟨w.heap.size + 1, 1, none⟩ = some (.int .i64 0) := ((blk_cell q1 1).trans rfl).trans (congrArg (fun v => some (Value.int .i64 v)) HTM.out); have HBT0 := Lib.hid (HA9.out.bw.trans (hb10.mono HA9.out.bw.size)); clear hR13 hb10 q1 hcs hgb hgl hC13)))
      refine wp_region_held_drew (S := fun w_ => Below w.heap.size w w_ ∧ w_.heap[g]? = some (.cells cells 3 (0, 0))) (by kernel_rfl) (⟨below_drew HBT0.out, blk_drew HCS.out⟩) (fun hS_ => ?_)
      have hS : Below w.heap.size w _ ∧ _ := hS_
      clear hS_
      change wpAnyH _ _ _ _ _ 20 #[false, false, false, false, false, false, false, false, false, false, false, false, false, false, false, false, false, false, false, false] _ _
      refine takeE 0 (some 94) #[true, false, false, false, false, false, false, false, false, false, false, false, false, false, false, false, false, false, false, false] hS ?_
      refine takeE 1 (some 95) #[true, true, false, false, false, false, false, false, false, false, false, false, false, false, false, false, false, false, false, false] hS ?_
      refine takeE 2 (some 96) #[true, true, true, false, false, false, false, false, false, false, false, false, false, false, false, false, false, false, false, false] hS ?_ (hy := fun w_ hS_ => by have x_ := (blk_cell (show w_.heap[g]? = some (.cells cells 3 (0, 0)) from hS_.2) 0).trans HC0.out; go_simp <;> with_reducible rfl)
      refine takeE 3 (some 97) #[true, true, true, true, false, false, false, false, false, false, false, false, false, false, false, false, false, false, false, false] hS ?_
      refine takeE 4 (some 98) #[true, true, true, true, true, false, false, false, false, false, false, false, false, false, false, false, false, false, false, false] hS ?_
      refine takeE 5 (some 99) #[true, true, true, true, true, true, false, false, false, false, false, false, false, false, false, false, false, false, false, false] hS ?_ (hy := fun w_ hS_ => by have x_ := (blk_cell (show w_.heap[g]? = some (.cells cells 3 (0, 0)) from hS_.2) 1).trans HC1.out; go_simp <;> with_reducible rfl)
      refine takeE 6 (some 100) #[true, true, true, true, true, true, true, false, false, false, false, false, false, false, false, false, false, false, false, false] hS ?_
      refine takeE 7 (some 101) #[true, true, true, true, true, true, true, true, false, false, false, false, false, false, false, false, false, false, false, false] hS ?_
      refine takeE 8 (some 102) #[true, true, true, true, true, true, true, true, true, false, false, false, false, false, false, false, false, false, false, false] hS ?_ (hy := fun w_ hS_ => by have x_ := (blk_cell (show w_.heap[g]? = some (.cells cells 3 (0, 0)) from hS_.2) 2).trans HC2.out; go_simp <;> with_reducible rfl)
      refine takeE 9 (some 103) #[true, true, true, true, true, true, true, true, true, true, false, false, false, false, false, false, false, false, false, false] hS ?_
      refine takeE 10 (some 104) #[true, true, true, true, true, true, true, true, true, true, true, false, false, false, false, false, false, false, false, false] hS ?_
      refine takeE 11 (some 105) #[true, true, true, true, true, true, true, true, true, true, true, true, false, false, false, false, false, false, false, false] hS ?_ (hy := fun w_ hS_ => by have x_ := (blk_cell (show w_.heap[g]? = some (.cells cells 3 (0, 0)) from hS_.2) 3).trans HC3.out; go_simp <;> with_reducible rfl)
      have hgn : g ≠ w.heap.size := by have h1 := HG.out; have h2 := HWYL.out; have h3 := HB9.out.size; omega
      have q0 := HB10b.out
      have z0 : w10.cell? ⟨w.heap.size, 0, none⟩ = some (.int .i64 s.f0) := (blk_cell q0 0).trans rfl
      have f0 : w10.frozen? ⟨w.heap.size, 0, none⟩ = false := blk_frozen q0 0
      have z1 : w10.cell? ⟨w.heap.size, 1, none⟩ = some (.int .i64 s.f1) := (blk_cell q0 1).trans rfl
      have f1 : w10.frozen? ⟨w.heap.size, 1, none⟩ = false := blk_frozen q0 1
      have z2 : w10.cell? ⟨w.heap.size, 2, none⟩ = some (.int .i64 s.f2) := (blk_cell q0 2).trans rfl
      have f2 : w10.frozen? ⟨w.heap.size, 2, none⟩ = false := blk_frozen q0 2
      have z3 : w10.cell? ⟨w.heap.size, 3, none⟩ = some (.int .i64 s.f3) := (blk_cell q0 3).trans rfl
      have f3 : w10.frozen? ⟨w.heap.size, 3, none⟩ = false := blk_frozen q0 3
      clear q0
      refine takeE 12 (some 106) #[true, true, true, true, true, true, true, true, true, true, true, true, true, false, false, false, false, false, false, false] hS ?_
      refine doD (i := 13) (ls2 := #[true, true, true, true, true, true, true, true, true, true, true, true, true, true, false, false, false, false, false, false]) (by kernel_rfl) rfl (by kernel_rfl) (by kernel_rfl) (fun K hK => ?_)
      go_simp
      refine hK.out _ _ ?_ (fun hS_ => ?_)
      · show Below w.heap.size w _ ∧ _
        exact ⟨hS.1.setCell (Nat.le_refl _) _, (heap_setCell_other _ _ _ _ hgn).trans hS.2⟩
      clear hK K hS
      have hS : Below w.heap.size w _ ∧ _ := hS_
      clear hS_
      refine takeE 14 (some 107) #[true, true, true, true, true, true, true, true, true, true, true, true, true, true, true, false, false, false, false, false] hS ?_
      refine doD (i := 15) (ls2 := #[true, true, true, true, true, true, true, true, true, true, true, true, true, true, true, true, false, false, false, false]) (by kernel_rfl) rfl (by kernel_rfl) (by kernel_rfl) (fun K hK => ?_)
      go_simp
      refine hK.out _ _ ?_ (fun hS_ => ?_)
      · show Below w.heap.size w _ ∧ _
        exact ⟨hS.1.setCell (Nat.le_refl _) _, (heap_setCell_other _ _ _ _ hgn).trans hS.2⟩
      clear hK K hS
      have hS : Below w.heap.size w _ ∧ _ := hS_
      clear hS_
      refine takeE 16 (some 108) #[true, true, true, true, true, true, true, true, true, true, true, true, true, true, true, true, true, false, false, false] hS ?_
      refine doD (i := 17) (ls2 := #[true, true, true, true, true, true, true, true, true, true, true, true, true, true, true, true, true, true, false, false]) (by kernel_rfl) rfl (by kernel_rfl) (by kernel_rfl) (fun K hK => ?_)
      go_simp
      refine hK.out _ _ ?_ (fun hS_ => ?_)
      · show Below w.heap.size w _ ∧ _
        exact ⟨hS.1.setCell (Nat.le_refl _) _, (heap_setCell_other _ _ _ _ hgn).trans hS.2⟩
      clear hK K hS
      have hS : Below w.heap.size w _ ∧ _ := hS_
      clear hS_
      refine takeE 18 (some 109) #[true, true, true, true, true, true, true, true, true, true, true, true, true, true, true, true, true, true, true, false] hS ?_
      refine doD (i := 19) (ls2 := #[true, true, true, true, true, true, true, true, true, true, true, true, true, true, true, true, true, true, true, true]) (by kernel_rfl) rfl (by kernel_rfl) (by kernel_rfl) (fun K hK => ?_)
      go_simp
      refine hK.out _ _ ?_ (fun hS_ => ?_)
      · show Below w.heap.size w _ ∧ _
        exact ⟨hS.1.setCell (Nat.le_refl _) _, (heap_setCell_other _ _ _ _ hgn).trans hS.2⟩
      clear hK K hS
      have hS : Below w.heap.size w _ ∧ _ := hS_
      clear hS_
      refine wpAnyH_done (by kernel_rfl) ?_ _
      try go_simp
      clear hS z0 z1 z2 z3 f0 f1 f2 f3 hgn
      obtain ⟨WT, hWT⟩ : ∃ W, W = ((((w10.setCell ⟨w.heap.size, 0, none⟩ (.int .i64 m)).setCell ⟨w.heap.size, 1, none⟩ (.int .i64 la)).setCell ⟨w.heap.size, 2, none⟩ (.int .i64 ba)).setCell ⟨w.heap.size, 3, none⟩ (.int .i64 nn)).drew := ⟨_, rfl⟩
      have HB0 := Lib.hid (show WT.heap[w.heap.size]? = some (.cells #[.int .i64 m, .int .i64 la, .int .i64 ba, .int .i64 nn, .slice A n c] 28 (0, 0)) from by rw [hWT]; exact blk_drew (put4_heap HB10b.out (.int .i64 m) (.int .i64 la) (.int .i64 ba) (.int .i64 nn)))
      have HB2 := Lib.hid (show WT.heap[w.heap.size + 1 + 1]? = some (.cells #[.int .i64 0, .int .i64 0, .int .i64 0, .int .i64 0, .slice none 0 0] 28 (0, 0)) from by rw [hWT]; exact blk_drew ((put4_other (by omega) (.int .i64 m) (.int .i64 la) (.int .i64 ba) (.int .i64 nn)).trans HB10c.out))
      have HBT := Lib.hid (show Below w.heap.size w WT from by rw [hWT]; exact below_drew (put4_below HBT0.out (Nat.le_refl _) (.int .i64 m) (.int .i64 la) (.int .i64 ba) (.int .i64 nn)))
      have HRT := Lib.hid (show Kd.R k46 46 WT w.heap.size (fun k => WY.heap.size ≤ k) (.slice A12 n c12) s.f4 from by rw [hWT]; exact R_other HRB10.out (fun k hk => put4_other (by have h1 : WY.heap.size ≤ k := hk; have h2 := HWYL.out; omega) (.int .i64 m) (.int .i64 la) (.int .i64 ba) (.int .i64 nn)))
      have HL12 := HN
      rw [← hWT]
      clear hWT
      have z0 : WT.cell? ⟨w.heap.size, 0, none⟩ = some (.int .i64 m) := (blk_cell HB0.out 0).trans rfl
      have z1 : WT.cell? ⟨w.heap.size, 1, none⟩ = some (.int .i64 la) := (blk_cell HB0.out 1).trans rfl
      have z2 : WT.cell? ⟨w.heap.size, 2, none⟩ = some (.int .i64 ba) := (blk_cell HB0.out 2).trans rfl
      have z3 : WT.cell? ⟨w.heap.size, 3, none⟩ = some (.int .i64 nn) := (blk_cell HB0.out 3).trans rfl
      have z4 : WT.cell? ⟨w.heap.size, 4, none⟩ = some (.slice A n c) := (blk_cell HB0.out 4).trans rfl
      have y0 : WT.cell? ⟨w.heap.size + 1 + 1, 0, none⟩ = some (.int .i64 0) := (blk_cell HB2.out 0).trans rfl
      have y1 : WT.cell? ⟨w.heap.size + 1 + 1, 1, none⟩ = some (.int .i64 0) := (blk_cell HB2.out 1).trans rfl
      have y2 : WT.cell? ⟨w.heap.size + 1 + 1, 2, none⟩ = some (.int .i64 0) := (blk_cell HB2.out 2).trans rfl
      have y3 : WT.cell? ⟨w.heap.size + 1 + 1, 3, none⟩ = some (.int .i64 0) := (blk_cell HB2.out 3).trans rfl
      have y4 : WT.cell? ⟨w.heap.size + 1 + 1, 4, none⟩ = some (.slice none 0 0) := (blk_cell HB2.out 4).trans rfl
      have f4 := blk_frozen HB0.out 4
      have e0 : WT.frozen? ⟨w.heap.size + 1 + 1, 0, none⟩ = false := blk_frozen HB2.out 0
      have e1 : WT.frozen? ⟨w.heap.size + 1 + 1, 1, none⟩ = false := blk_frozen HB2.out 1
      have e2 : WT.frozen? ⟨w.heap.size + 1 + 1, 2, none⟩ = false := blk_frozen HB2.out 2
      have e3 : WT.frozen? ⟨w.heap.size + 1 + 1, 3, none⟩ = false := blk_frozen HB2.out 3
      have e4 : WT.frozen? ⟨w.heap.size + 1 + 1, 4, none⟩ = false := blk_frozen HB2.out 4
      go_wp2
      have hb2 : (WT.setCell ⟨w.heap.size, 4, none⟩ (.slice A12 n c12)).heap[w.heap.size + 1 + 1]? = some (.cells #[.int .i64 0, .int .i64 0, .int .i64 0, .int .i64 0, .slice none 0 0] 28 (0, 0)) := (heap_setCell_other _ _ _ _ (by show w.heap.size + 1 + 1 ≠ w.heap.size; omega)).trans HB2.out
      refine bodyPost_ret (results_ct' rfl _ _ (w.heap.size + 1 + 1) 28 #[.int .i64 m, .int .i64 la, .int .i64 ba, .int .i64 nn, .slice A12 n c12] (0, 0) _ rfl (put5_heap hb2 (.int .i64 m) (.int .i64 la) (.int .i64 ba) (.int .i64 nn) (.slice A12 n c12)) Try.underlying28 rfl (by kernel_rfl)) rfl ?_
      refine ⟨A12, c12, ?_, ?_, put5_below (HBT.out.setCell (p := ⟨w.heap.size, 4, none⟩) (Nat.le_refl _) _) (by omega) (.int .i64 m) (.int .i64 la) (.int .i64 ba) (.int .i64 nn) (.slice A12 n c12)⟩
      · show _ = Ending.returned (.tuple #[.agg #[.int .i64 m, .int .i64 la, .int .i64 ba, .int .i64 nn, .slice A12 s.f4.length c12], .int .i64 0])
        rw [HL12.out]
        rfl
      · skip
        refine R_ok (R_other HRT.out (fun k hk => ?_)) (fun _ _ => trivial)
        have hk' : WY.heap.size ≤ k := hk
        have hwy := HWYL.out
        exact (put5_other (by omega) (.int .i64 m) (.int .i64 la) (.int .i64 ba) (.int .i64 nn) (.slice A12 n c12)).trans (heap_setCell_other _ _ _ _ (by show k ≠ w.heap.size; omega))
end Go.Proofs.Ytgipepjpkmlmaaa.P
