import Derived.ArgAppend
import Derived.Test.YtgipepjpkmlmaaaQR1
import Derived.Test.YtgipepjpkmlmaaaQR2
import Derived.Test.YtgipepjpkmlmaaaQR3
import Derived.Test.YtgipepjpkmlmaaaQR4
import Derived.Test.YtgipepjpkmlmaaaQR5
import Derived.Test.YtgipepjpkmlmaaaQR6
import Derived.Test.YtgipepjpkmlmaaaQR7
import Derived.Test.YtgipepjpkmlmaaaQR8
import Derived.Test.YtgipepjpkmlmaaaQR9
import Derived.Test.YtgipepjpkmlmaaaQR10
import Derived.Test.YtgipepjpkmlmaaaQR11
import Derived.Test.YtgipepjpkmlmaaaQR12
import Derived.Test.YtgipepjpkmlmaaaQR13
import Derived.Test.YtgipepjpkmlmaaaQR14
import Derived.Test.YtgipepjpkmlmaaaQR15
import Derived.Test.YtgipepjpkmlmaaaQR16
import Derived.Test.YtgipepjpkmlmaaaQR17
import Derived.Test.YtgipepjpkmlmaaaQR18
import Derived.Test.YtgipepjpkmlmaaaQR19
import Derived.Test.YtgipepjpkmlmaaaQR20
import Derived.Test.YtgipepjpkmlmaaaQR21
namespace Go.Proofs.Ytgipepjpkmlmaaa.P
open Go.RowKit Go.Proofs.YtgipepjpkmlmaaaW.PrintWords Go.Proofs.YtgipepjpkmlmaaaW.PrintLast Go.Proofs.YtgipepjpkmlmaaaW.PrintMore
set_option linter.unusedVariables false
set_option linter.unusedSimpArgs false
def putR (w : World) (g n : Nat) (x : S46) : World := (((((((((((w.setCell ⟨g, n, none⟩ (.int .i64 x.f0)).setCell ⟨g, n + 1, none⟩ (.int .i64 x.f1)).setCell ⟨g, n + 2, none⟩ (.int .i64 x.f2.f0)).setCell ⟨g, n + 3, none⟩ (.int .i64 x.f2.f1)).setCell ⟨g, n + 4, none⟩ (.int .i64 x.f2.f2)).setCell ⟨g, n + 5, none⟩ (.int .i64 x.f2.f3)).setCell ⟨g, n + 6, none⟩ (.int .i64 x.f2.f4.f0)).setCell ⟨g, n + 7, none⟩ (.int .i64 x.f2.f4.f1)).setCell ⟨g, n + 8, none⟩ (.int .i64 x.f2.f4.f2)).setCell ⟨g, n + 9, none⟩ (.int .i64 x.f2.f4.f3)).setCell ⟨g, n + 10, none⟩ (.int .i64 x.f2.f5)).setCell ⟨g, n + 11, none⟩ (.int .i64 x.f2.f6)
theorem putR_below {B g n : Nat} {w0 w : World} (h : Below B w0 w) (hg : B ≤ g) (x : S46) : Below B w0 (putR w g n x) := by
  unfold putR
  exact ((((((((((((h.setCell hg _).setCell hg _).setCell hg _).setCell hg _).setCell hg _).setCell hg _).setCell hg _).setCell hg _).setCell hg _).setCell hg _).setCell hg _).setCell hg _)
theorem putR_other {w : World} {g n k : Nat} (h : k ≠ g) (x : S46) : (putR w g n x).heap[k]? = w.heap[k]? := by
  unfold putR
  rw [heap_setCell_other _ _ k _ h, heap_setCell_other _ _ k _ h, heap_setCell_other _ _ k _ h, heap_setCell_other _ _ k _ h, heap_setCell_other _ _ k _ h, heap_setCell_other _ _ k _ h, heap_setCell_other _ _ k _ h, heap_setCell_other _ _ k _ h, heap_setCell_other _ _ k _ h, heap_setCell_other _ _ k _ h, heap_setCell_other _ _ k _ h, heap_setCell_other _ _ k _ h]
theorem putR_heap {w : World} {gr : Nat} {l : List S46} {tl : List Value} (hg : w.heap[gr]? = some (.cells (flat l ++ tl).toArray 46 (0, 0))) (I : Nat) (hI : I < l.length) (x : S46) :
    (putR w gr (I * 12) x).heap[gr]? = some (.cells (flat (l.set I x) ++ tl).toArray 46 (0, 0)) := by
  have hP : (flat (l.take I)).length = I * 12 := by rw [flat_length, List.length_take, Nat.min_eq_left (by omega)]
  obtain ⟨y, hy⟩ : ∃ y, rd_T46 l (I : Int) = y := ⟨_, rfl⟩
  rw [flat_at l I hI tl, hy] at hg
  rw [set_at l I hI]
  unfold putR
  have g0 := hg
  have g1 := blk_put g0 (I * 12) (.int .i64 x.f0) (set_mid _ _ _ 0 _ _ (by rw [hP, Nat.add_zero]) (by simp [c12]))
  have g2 := blk_put g1 (I * 12 + 1) (.int .i64 x.f1) (set_mid _ _ _ 1 _ _ (by rw [hP]) (by simp [c12]))
  have g3 := blk_put g2 (I * 12 + 2) (.int .i64 x.f2.f0) (set_mid _ _ _ 2 _ _ (by rw [hP]) (by simp [c12]))
  have g4 := blk_put g3 (I * 12 + 3) (.int .i64 x.f2.f1) (set_mid _ _ _ 3 _ _ (by rw [hP]) (by simp [c12]))
  have g5 := blk_put g4 (I * 12 + 4) (.int .i64 x.f2.f2) (set_mid _ _ _ 4 _ _ (by rw [hP]) (by simp [c12]))
  have g6 := blk_put g5 (I * 12 + 5) (.int .i64 x.f2.f3) (set_mid _ _ _ 5 _ _ (by rw [hP]) (by simp [c12]))
  have g7 := blk_put g6 (I * 12 + 6) (.int .i64 x.f2.f4.f0) (set_mid _ _ _ 6 _ _ (by rw [hP]) (by simp [c12]))
  have g8 := blk_put g7 (I * 12 + 7) (.int .i64 x.f2.f4.f1) (set_mid _ _ _ 7 _ _ (by rw [hP]) (by simp [c12]))
  have g9 := blk_put g8 (I * 12 + 8) (.int .i64 x.f2.f4.f2) (set_mid _ _ _ 8 _ _ (by rw [hP]) (by simp [c12]))
  have g10 := blk_put g9 (I * 12 + 9) (.int .i64 x.f2.f4.f3) (set_mid _ _ _ 9 _ _ (by rw [hP]) (by simp [c12]))
  have g11 := blk_put g10 (I * 12 + 10) (.int .i64 x.f2.f5) (set_mid _ _ _ 10 _ _ (by rw [hP]) (by simp [c12]))
  have g12 := blk_put g11 (I * 12 + 11) (.int .i64 x.f2.f6) (set_mid _ _ _ 11 _ _ (by rw [hP]) (by simp [c12]))
  exact g12
end Go.Proofs.Ytgipepjpkmlmaaa.P
namespace Go.Proofs.Ytgipepjpkmlmaaa.P
open Go.RowKit Go.Proofs.YtgipepjpkmlmaaaW.PrintWords Go.Proofs.YtgipepjpkmlmaaaW.PrintLast Go.Proofs.YtgipepjpkmlmaaaW.PrintMore
set_option linter.unusedVariables false
set_option linter.unusedSimpArgs false
set_option maxHeartbeats 16000000 in
set_option maxRecDepth 100000 in
theorem apply1r_calls (s : S28) (r : S50) (rest : ByteArray) (i : Nat) (a : S44) (ha : aggR a) (hok : aggOk a = true) (hdr : rest = numsT (aggL a)) (hisq : isP s.f4 ⟨r.f0, r.f1, z44⟩ i = true) (hkk : (rd_T46 s.f4 (i : Int)).f0 = r.f0) (hkt : (rd_T46 s.f4 (i : Int)).f1 = r.f1) (A : Option Addr) (c : Nat) (w : World) (hra : Kd.C k46 w A s.f4.length s.f4) (hca : s.f4.length ≤ c) (hla : s.f4.length ≤ 1000)
    (htk : tkL r.f2 11 0 0 = (1, rest, 0)) (hrs : r.f2.size ≤ 1000000) (hpl : placeOk s.f4 ⟨r.f0, r.f1, z44⟩ i) :
    Calls Try.prog 36 #[.agg #[.int .i64 s.f0, .int .i64 s.f1, .int .i64 s.f2, .int .i64 s.f3, .slice A s.f4.length c], .agg #[.int .i64 r.f0, .int .i64 r.f1, .string r.f2]] w fun e w' => ∃ (A' : Option Addr) (c' : Nat), e = .returned (.tuple #[stV (⟨s.f0, s.f1, s.f2, s.f3, (s.f4.set i ⟨r.f0, r.f1, a⟩)⟩ : S28) A' c', .int .i64 0]) ∧ Kd.R k46 46 w' w.heap.size (fun _ => True) (.slice A' ((⟨s.f0, s.f1, s.f2, s.f3, (s.f4.set i ⟨r.f0, r.f1, a⟩)⟩ : S28)).f4.length c') ((⟨s.f0, s.f1, s.f2, s.f3, (s.f4.set i ⟨r.f0, r.f1, a⟩)⟩ : S28)).f4 ∧ Below w.heap.size w w' := by
  have hvt := fun w => vtake_calls r.f2 w (by omega)
  rw [htk] at hvt
  have hrest : rest.size ≤ 1000000 := by have h := tk_size r.f2 11 0 0; rw [htk] at h; exact Nat.le_trans h hrs
  have HREST := Lib.hid hrest
  have hdec := fun w => decode_calls a ha hok w
  rw [← hdr] at hdec
  have HDEC := Lib.hid hdec
  have HISQ := Lib.hid hisq
  clear hdec hisq hdr ha hok
  have HKK := Lib.hid hkk
  have HKT := Lib.hid hkt
  clear hkk hkt
  clear hrest htk hrs
  obtain ⟨hp1, hp2, hp3⟩ := hpl
  have HP2 := Lib.hid hp2
  have HP3 := Lib.hid hp3
  have HP1 := Lib.hid hp1
  have hil : i ≤ 1000 := by omega
  clear hp2 hp3 hp1
  obtain ⟨is, his⟩ : ∃ q, isP s.f4 ⟨r.f0, r.f1, z44⟩ i = q := ⟨_, rfl⟩
  have HIS := Lib.hid his
  clear his
  obtain ⟨n, hn⟩ : ∃ n, s.f4.length = n := ⟨_, rfl⟩
  rw [hn] at hra hca hla ⊢
  have HN := Lib.hid hn
  have HRA := Lib.hid hra
  have HVT := Lib.hid hvt
  clear hn hra hvt
  obtain ⟨W3, hW3⟩ : ∃ W, W = ((w.alloc (.cells #[.int .i64 s.f0, .int .i64 s.f1, .int .i64 s.f2, .int .i64 s.f3, .slice A n c] 28)).alloc (.cells #[.int .i64 r.f0, .int .i64 r.f1, .string r.f2] 50)).alloc (.cells #[.int .i64 0, .int .i64 0, .int .i64 0, .int .i64 0, .slice none 0 0] 28) := ⟨_, rfl⟩
  have h0 : W3.heap[w.heap.size]? = some (.cells #[.int .i64 s.f0, .int .i64 s.f1, .int .i64 s.f2, .int .i64 s.f3, .slice A n c] 28 (0, 0)) := by
    rw [hW3]
    exact blk_below (blk_below (heap_alloc_new w _) ((Below.refl _ _).alloc (Nat.le_refl _) _)) ((Below.refl _ _).alloc (Nat.le_refl _) _)
  have h1 : W3.heap[w.heap.size + 1]? = some (.cells #[.int .i64 r.f0, .int .i64 r.f1, .string r.f2] 50 (0, 0)) := by
    rw [hW3]
    have := blk_below (heap_alloc_new (w.alloc (.cells #[.int .i64 s.f0, .int .i64 s.f1, .int .i64 s.f2, .int .i64 s.f3, .slice A n c] 28)) (.cells #[.int .i64 r.f0, .int .i64 r.f1, .string r.f2] 50)) ((Below.refl _ _).alloc (Nat.le_refl _) (.cells #[.int .i64 0, .int .i64 0, .int .i64 0, .int .i64 0, .slice none 0 0] 28))
    simpa using this
  have h2 : W3.heap[w.heap.size + 2]? = some (.cells #[.int .i64 0, .int .i64 0, .int .i64 0, .int .i64 0, .slice none 0 0] 28 (0, 0)) := by
    rw [hW3]
    have := heap_alloc_new ((w.alloc (.cells #[.int .i64 s.f0, .int .i64 s.f1, .int .i64 s.f2, .int .i64 s.f3, .slice A n c] 28)).alloc (.cells #[.int .i64 r.f0, .int .i64 r.f1, .string r.f2] 50)) (.cells #[.int .i64 0, .int .i64 0, .int .i64 0, .int .i64 0, .slice none 0 0] 28)
    simpa using this
  have hbw : Below w.heap.size w W3 := by rw [hW3]; exact below_alloc (below_alloc (below_alloc (Below.refl _ _) _) _) _
  have HA3 := Lib.hid (ApW.mk h0 h1 h2 hbw : ApW w W3 s r A n c)
  have HW3 := Lib.hid hW3
  have y2 : W3.cell? ⟨w.heap.size + 1, 2, none⟩ = some (.string r.f2) := (blk_cell h1 2).trans rfl
  clear hW3 h0 h1 h2 hbw
  go_enter Try.func36, Try.ntmps36
  go_upto_region 1 with fail
  rw [← HW3.out]
  go_upto_region 5 with (first | (go_at_call 68; go_loud ((with_reducible refine (HVT.out _).mono ?_); rintro e w4 ⟨rfl, hb4⟩; have HB4 := Lib.hid hb4; have hq := blk_below HA3.out.b1 hb4; have y0 : w4.cell? ⟨w.heap.size + 1, 0, none⟩ = some (.int .i64 r.f0) := (blk_cell hq 0).trans rfl; have y1 : w4.cell? ⟨w.heap.size + 1, 1, none⟩ = some (.int .i64 r.f1) := (blk_cell hq 1).trans rfl; clear hq hb4)))
  obtain ⟨WI, hWI⟩ : ∃ W, W = w4.alloc (.cells #[.int .i64 r.f0, .int .i64 r.f1, .int .i64 0, .int .i64 0, .int .i64 0, .int .i64 0, .int .i64 0, .int .i64 0, .int .i64 0, .int .i64 0, .int .i64 0, .int .i64 0] 46) := ⟨_, rfl⟩
  rw [← hWI]
  have hba : Below w4.heap.size w4 WI := by rw [hWI]; exact (Below.refl _ _).alloc (Nat.le_refl _) _
  have hbi : Below W3.heap.size W3 WI := HB4.out.trans (hba.mono HB4.out.size)
  have HAI := Lib.hid (ApW.mk (blk_below HA3.out.b0 hbi) (blk_below HA3.out.b1 hbi) (blk_below HA3.out.b2 hbi) (HA3.out.bw.trans (hbi.mono HA3.out.bw.size)) : ApW w WI s r A n c)
  have hat : WI.heap[w4.heap.size]? = some (.cells #[.int .i64 r.f0, .int .i64 r.f1, .int .i64 0, .int .i64 0, .int .i64 0, .int .i64 0, .int .i64 0, .int .i64 0, .int .i64 0, .int .i64 0, .int .i64 0, .int .i64 0] 46 (0, 0)) := by rw [hWI]; exact heap_alloc_new _ _
  obtain ⟨ga, hga⟩ : ∃ g, w4.heap.size = g := ⟨_, rfl⟩
  have hgl : w.heap.size + 2 < ga := by
    have h1 := lt_of_block HA3.out.b2
    have h2 := HB4.out.size
    omega
  rw [hga] at hat ⊢
  have HAT := Lib.hid hat
  have HGL := Lib.hid hgl
  have hx4 : WI.cell? ⟨w.heap.size, 4, none⟩ = some (.slice A n c) := (blk_cell HAI.out.b0 4).trans rfl
  have HX4 := Lib.hid hx4
  have HT0 := Lib.hid (show WI.cell? ⟨ga, 0, none⟩ = some (.int .i64 r.f0) from (blk_cell hat 0).trans rfl)
  have HT1 := Lib.hid (show WI.cell? ⟨ga, 1, none⟩ = some (.int .i64 r.f1) from (blk_cell hat 1).trans rfl)
  have HT2 := Lib.hid (show WI.cell? ⟨ga, 2, none⟩ = some (.int .i64 0) from (blk_cell hat 2).trans rfl)
  have HT3 := Lib.hid (show WI.cell? ⟨ga, 3, none⟩ = some (.int .i64 0) from (blk_cell hat 3).trans rfl)
  have HT4 := Lib.hid (show WI.cell? ⟨ga, 4, none⟩ = some (.int .i64 0) from (blk_cell hat 4).trans rfl)
  have HT5 := Lib.hid (show WI.cell? ⟨ga, 5, none⟩ = some (.int .i64 0) from (blk_cell hat 5).trans rfl)
  have HT6 := Lib.hid (show WI.cell? ⟨ga, 6, none⟩ = some (.int .i64 0) from (blk_cell hat 6).trans rfl)
  have HT7 := Lib.hid (show WI.cell? ⟨ga, 7, none⟩ = some (.int .i64 0) from (blk_cell hat 7).trans rfl)
  have HT8 := Lib.hid (show WI.cell? ⟨ga, 8, none⟩ = some (.int .i64 0) from (blk_cell hat 8).trans rfl)
  have HT9 := Lib.hid (show WI.cell? ⟨ga, 9, none⟩ = some (.int .i64 0) from (blk_cell hat 9).trans rfl)
  have HT10 := Lib.hid (show WI.cell? ⟨ga, 10, none⟩ = some (.int .i64 0) from (blk_cell hat 10).trans rfl)
  have HT11 := Lib.hid (show WI.cell? ⟨ga, 11, none⟩ = some (.int .i64 0) from (blk_cell hat 11).trans rfl)
  clear hWI hba hbi hat hx4 y0 y1 y2 hga hgl
  go_upto_block 0 with fail
  go_cut [10] from 33 to 48 (fun v10 wc => v10 = .int .i64 (i : Int) ∧ Below WI.heap.size WI wc)
  case first =>
    go_wp2
    go_loopg [10] n (fun kq v10 WX => ∃ (j : Nat), v10 = .int .i64 (j : Int) ∧ j ≤ i ∧ n - j ≤ kq ∧ Below WI.heap.size WI WX)
    case atStart => exact ⟨0, rfl, Nat.zero_le _, by omega, Below.refl _ _⟩
    case round =>
      obtain ⟨j, rfl, hji, hjk, hbr⟩ := hrel
      obtain ⟨WX, hWX⟩ : ∃ W, W = wr := ⟨_, rfl⟩
      subst hWX
      have HBR := Lib.hid hbr
      clear hbr
      have hin : i ≤ n := by have h1 := HP1.out; have h2 := HN.out; omega
      by_cases hj : j < n
      rotate_left
      · have d1 : decide ((j : Int) < (n : Int)) = false := decide_eq_false (by omega)
        obtain rfl : j = i := by omega
        go_wp2
        refine wp_region_held_drew (S := fun w_ => Below WX.heap.size WX w_) (by kernel_rfl) (below_drew (Below.refl _ _)) (fun hS_ => ?_)
        have hS : Below WX.heap.size WX _ := hS_
        clear hS_
        change wpAnyH _ _ _ _ _ 14 #[false, false, false, false, false, false, false, false, false, false, false, false, false, false] _ _
        refine takeE 0 (some 33) #[true, false, false, false, false, false, false, false, false, false, false, false, false, false] hS ?_
        refine takeE 1 (some 34) #[true, true, false, false, false, false, false, false, false, false, false, false, false, false] hS ?_
        refine takeE 2 (some 35) #[true, true, true, false, false, false, false, false, false, false, false, false, false, false] hS ?_ (hy := fun w_ hS_ => by (replace hS_ : Below WX.heap.size WX w_ := hS_); have x0_ := below_cell (Below.trans HBR.out (hS_.mono HBR.out.size)) HX4.out; go_simp <;> with_reducible rfl)
        refine doD (i := 3) (ls2 := #[true, true, true, true, false, false, false, false, false, false, false, false, false, false]) (by kernel_rfl) rfl (by kernel_rfl) (by kernel_rfl) (fun K hK => ?_)
        go_simp
        refine hK.out _ _ ?_ (fun hS_ => ?_)
        · show Below WX.heap.size WX _
          exact hS
        clear hK K hS
        have hS : Below WX.heap.size WX _ := hS_
        clear hS_
        refine takeE 4 (some 37) #[true, true, true, true, true, false, false, false, false, false, false, false, false, false] hS ?_
        refine takeE 5 (some 38) #[true, true, true, true, true, true, false, false, false, false, false, false, false, false] hS ?_
        refine offE 6 (some 39) #[true, true, true, true, true, true, true, false, false, false, false, false, false, false] hS ?_
        refine offE 7 (some 40) #[true, true, true, true, true, true, true, true, false, false, false, false, false, false] hS ?_
        refine offE 8 (some 41) #[true, true, true, true, true, true, true, true, true, false, false, false, false, false] hS ?_
        refine offE 9 (some 42) #[true, true, true, true, true, true, true, true, true, true, false, false, false, false] hS ?_
        refine offE 10 (some 43) #[true, true, true, true, true, true, true, true, true, true, true, false, false, false] hS ?_
        refine offE 11 (some 44) #[true, true, true, true, true, true, true, true, true, true, true, true, false, false] hS ?_
        refine offE 12 (some 45) #[true, true, true, true, true, true, true, true, true, true, true, true, true, false] hS ?_
        refine takeE 13 (some 46) #[true, true, true, true, true, true, true, true, true, true, true, true, true, true] hS ?_
        refine wpAnyH_done (by kernel_rfl) ?_ _
        try go_simp
        have HSS := Lib.hid hS
        clear hS
        go_wp2
        go_meet
        case rel => exact ⟨rfl, HBR.out.trans (HSS.out.mono HBR.out.size)⟩
      · have d1 : decide ((j : Int) < (n : Int)) = true := decide_eq_true (by omega)
        have hbj : (0 : Int) ≤ (j : Int) ∧ (j : Int) < (n : Int) := by omega
        have hwj : IntKind.i64.wrap ((j : Int) + 1) = ((j + 1 : Nat) : Int) := by rw [IntKind.wrap_i64]; omega
        obtain ⟨adx, had, x0, x1, x2, x3, x4, x5, x6, x7, x8, x9, x10, x11⟩ := at_T46 (Kd.C_below HRA.out HAI.out.bw) (j : Int) (by omega) (by omega)
        cases had
        rw [Int.toNat_natCast] at x0 x1 x2 x3 x4 x5 x6 x7 x8 x9 x10 x11
        obtain ⟨x, hx⟩ : ∃ x, rd_T46 s.f4 (j : Int) = x := ⟨_, rfl⟩
        rw [hx] at x0 x1 x2 x3 x4 x5 x6 x7 x8 x9 x10 x11
        have HXE := Lib.hid hx
        have HX_0 := Lib.hid x0
        have HX_1 := Lib.hid x1
        have HX_2 := Lib.hid x2
        have HX_3 := Lib.hid x3
        have HX_4 := Lib.hid x4
        have HX_5 := Lib.hid x5
        have HX_6 := Lib.hid x6
        have HX_7 := Lib.hid x7
        have HX_8 := Lib.hid x8
        have HX_9 := Lib.hid x9
        have HX_10 := Lib.hid x10
        have HX_11 := Lib.hid x11
        clear x0 x1 x2 x3 x4 x5 x6 x7 x8 x9 x10 x11 hx
        have hax : ∀ w, Calls Try.prog 61 #[cellV x, (.agg #[.int .i64 r.f0, .int .i64 r.f1, .int .i64 0, .int .i64 0, .int .i64 0, .int .i64 0, .int .i64 0, .int .i64 0, .int .i64 0, .int .i64 0, .int .i64 0, .int .i64 0])] w fun e w' => e = .returned (.bool (aheadB x ⟨r.f0, r.f1, z44⟩)) ∧ Below w.heap.size w w' := fun w => ahead_calls x ⟨r.f0, r.f1, z44⟩ w
        cases gk with
        | zero => omega
        | succ gk =>
        go_wp2
        by_cases hji2 : j < i
        · have hq1 : aheadB x ⟨r.f0, r.f1, z44⟩ = true := by rw [← HXE.out]; exact HP2.out j hji2
          rw [hq1] at hax
          have HAX := Lib.hid hax
          clear hax hq1
          refine wp_region_held_drew (S := fun w_ => Below WX.heap.size WX w_) (by kernel_rfl) (below_drew (Below.refl _ _)) (fun hS_ => ?_)
          have hS : Below WX.heap.size WX _ := hS_
          clear hS_
          change wpAnyH _ _ _ _ _ 14 #[false, false, false, false, false, false, false, false, false, false, false, false, false, false] _ _
          refine takeE 0 (some 33) #[true, false, false, false, false, false, false, false, false, false, false, false, false, false] hS ?_
          refine takeE 1 (some 34) #[true, true, false, false, false, false, false, false, false, false, false, false, false, false] hS ?_
          refine takeE 2 (some 35) #[true, true, true, false, false, false, false, false, false, false, false, false, false, false] hS ?_ (hy := fun w_ hS_ => by (replace hS_ : Below WX.heap.size WX w_ := hS_); have x0_ := below_cell (Below.trans HBR.out (hS_.mono HBR.out.size)) HX4.out; go_simp <;> with_reducible rfl)
          refine doD (i := 3) (ls2 := #[true, true, true, true, false, false, false, false, false, false, false, false, false, false]) (by kernel_rfl) rfl (by kernel_rfl) (by kernel_rfl) (fun K hK => ?_)
          go_simp
          refine hK.out _ _ ?_ (fun hS_ => ?_)
          · show Below WX.heap.size WX _
            exact hS
          clear hK K hS
          have hS : Below WX.heap.size WX _ := hS_
          clear hS_
          refine takeE 4 (some 37) #[true, true, true, true, true, false, false, false, false, false, false, false, false, false] hS ?_
          refine takeE 5 (some 38) #[true, true, true, true, true, true, false, false, false, false, false, false, false, false] hS ?_
          refine takeE 6 (some 39) #[true, true, true, true, true, true, true, false, false, false, false, false, false, false] hS ?_
          refine takeE 7 (some 40) #[true, true, true, true, true, true, true, true, false, false, false, false, false, false] hS ?_ (hy := fun w_ hS_ => by (replace hS_ : Below WX.heap.size WX w_ := hS_); have x0_ := below_cell (Below.trans HBR.out (hS_.mono HBR.out.size)) HX4.out; go_simp <;> with_reducible rfl)
          refine takeE 8 (some 41) #[true, true, true, true, true, true, true, true, true, false, false, false, false, false] hS ?_
          refine takeE 9 (some 42) #[true, true, true, true, true, true, true, true, true, true, false, false, false, false] hS ?_
          refine takeE 10 (some 43) #[true, true, true, true, true, true, true, true, true, true, true, false, false, false] hS ?_ (hy := fun w_ hS_ => by (replace hS_ : Below WX.heap.size WX w_ := hS_); have x0_ := below_cell (Below.trans HBR.out (hS_.mono HBR.out.size)) HX_0.out; have x1_ := below_cell (Below.trans HBR.out (hS_.mono HBR.out.size)) HX_1.out; have x2_ := below_cell (Below.trans HBR.out (hS_.mono HBR.out.size)) HX_2.out; have x3_ := below_cell (Below.trans HBR.out (hS_.mono HBR.out.size)) HX_3.out; have x4_ := below_cell (Below.trans HBR.out (hS_.mono HBR.out.size)) HX_4.out; have x5_ := below_cell (Below.trans HBR.out (hS_.mono HBR.out.size)) HX_5.out; have x6_ := below_cell (Below.trans HBR.out (hS_.mono HBR.out.size)) HX_6.out; have x7_ := below_cell (Below.trans HBR.out (hS_.mono HBR.out.size)) HX_7.out; have x8_ := below_cell (Below.trans HBR.out (hS_.mono HBR.out.size)) HX_8.out; have x9_ := below_cell (Below.trans HBR.out (hS_.mono HBR.out.size)) HX_9.out; have x10_ := below_cell (Below.trans HBR.out (hS_.mono HBR.out.size)) HX_10.out; have x11_ := below_cell (Below.trans HBR.out (hS_.mono HBR.out.size)) HX_11.out; go_simp <;> with_reducible rfl)
          refine takeE 11 (some 44) #[true, true, true, true, true, true, true, true, true, true, true, true, false, false] hS ?_ (hy := fun w_ hS_ => by (replace hS_ : Below WX.heap.size WX w_ := hS_); have x0_ := below_cell (Below.trans HBR.out (hS_.mono HBR.out.size)) HT0.out; have x1_ := below_cell (Below.trans HBR.out (hS_.mono HBR.out.size)) HT1.out; have x2_ := below_cell (Below.trans HBR.out (hS_.mono HBR.out.size)) HT2.out; have x3_ := below_cell (Below.trans HBR.out (hS_.mono HBR.out.size)) HT3.out; have x4_ := below_cell (Below.trans HBR.out (hS_.mono HBR.out.size)) HT4.out; have x5_ := below_cell (Below.trans HBR.out (hS_.mono HBR.out.size)) HT5.out; have x6_ := below_cell (Below.trans HBR.out (hS_.mono HBR.out.size)) HT6.out; have x7_ := below_cell (Below.trans HBR.out (hS_.mono HBR.out.size)) HT7.out; have x8_ := below_cell (Below.trans HBR.out (hS_.mono HBR.out.size)) HT8.out; have x9_ := below_cell (Below.trans HBR.out (hS_.mono HBR.out.size)) HT9.out; have x10_ := below_cell (Below.trans HBR.out (hS_.mono HBR.out.size)) HT10.out; have x11_ := below_cell (Below.trans HBR.out (hS_.mono HBR.out.size)) HT11.out; go_simp <;> with_reducible rfl)
          refine doD (i := 12) (ls2 := #[true, true, true, true, true, true, true, true, true, true, true, true, true, false]) (by kernel_rfl) rfl (by kernel_rfl) (by kernel_rfl) (fun K hK => ?_)
          go_simp
          go_wp2_with (first | (go_at_call 61; go_loud ((with_reducible refine (HAX.out _).mono ?_); rintro e w6 ⟨rfl, hb6⟩)))
          refine hK.out _ _ ?_ (fun hS_ => ?_)
          · show Below WX.heap.size WX _
            exact hS.trans (hb6.mono hS.size)
          clear hK K hS hb6
          have hS : Below WX.heap.size WX _ := hS_
          clear hS_
          refine takeE 13 (some 46) #[true, true, true, true, true, true, true, true, true, true, true, true, true, true] hS ?_
          refine wpAnyH_done (by kernel_rfl) ?_ _
          try go_simp
          have HSS := Lib.hid hS
          clear hS
          go_wp2
          go_roundg gk
          case measure => omega
          case rel => exact ⟨j + 1, by first | rfl | (congr 1), by omega, by omega, HBR.out.trans (HSS.out.mono HBR.out.size)⟩
        · obtain rfl : j = i := by omega
          have hq1 : aheadB x ⟨r.f0, r.f1, z44⟩ = false := by rw [← HXE.out]; exact HP3.out (by have := HN.out; omega)
          rw [hq1] at hax
          have HAX := Lib.hid hax
          clear hax hq1
          refine wp_region_held_drew (S := fun w_ => Below WX.heap.size WX w_) (by kernel_rfl) (below_drew (Below.refl _ _)) (fun hS_ => ?_)
          have hS : Below WX.heap.size WX _ := hS_
          clear hS_
          change wpAnyH _ _ _ _ _ 14 #[false, false, false, false, false, false, false, false, false, false, false, false, false, false] _ _
          refine takeE 0 (some 33) #[true, false, false, false, false, false, false, false, false, false, false, false, false, false] hS ?_
          refine takeE 1 (some 34) #[true, true, false, false, false, false, false, false, false, false, false, false, false, false] hS ?_
          refine takeE 2 (some 35) #[true, true, true, false, false, false, false, false, false, false, false, false, false, false] hS ?_ (hy := fun w_ hS_ => by (replace hS_ : Below WX.heap.size WX w_ := hS_); have x0_ := below_cell (Below.trans HBR.out (hS_.mono HBR.out.size)) HX4.out; go_simp <;> with_reducible rfl)
          refine doD (i := 3) (ls2 := #[true, true, true, true, false, false, false, false, false, false, false, false, false, false]) (by kernel_rfl) rfl (by kernel_rfl) (by kernel_rfl) (fun K hK => ?_)
          go_simp
          refine hK.out _ _ ?_ (fun hS_ => ?_)
          · show Below WX.heap.size WX _
            exact hS
          clear hK K hS
          have hS : Below WX.heap.size WX _ := hS_
          clear hS_
          refine takeE 4 (some 37) #[true, true, true, true, true, false, false, false, false, false, false, false, false, false] hS ?_
          refine takeE 5 (some 38) #[true, true, true, true, true, true, false, false, false, false, false, false, false, false] hS ?_
          refine takeE 6 (some 39) #[true, true, true, true, true, true, true, false, false, false, false, false, false, false] hS ?_
          refine takeE 7 (some 40) #[true, true, true, true, true, true, true, true, false, false, false, false, false, false] hS ?_ (hy := fun w_ hS_ => by (replace hS_ : Below WX.heap.size WX w_ := hS_); have x0_ := below_cell (Below.trans HBR.out (hS_.mono HBR.out.size)) HX4.out; go_simp <;> with_reducible rfl)
          refine takeE 8 (some 41) #[true, true, true, true, true, true, true, true, true, false, false, false, false, false] hS ?_
          refine takeE 9 (some 42) #[true, true, true, true, true, true, true, true, true, true, false, false, false, false] hS ?_
          refine takeE 10 (some 43) #[true, true, true, true, true, true, true, true, true, true, true, false, false, false] hS ?_ (hy := fun w_ hS_ => by (replace hS_ : Below WX.heap.size WX w_ := hS_); have x0_ := below_cell (Below.trans HBR.out (hS_.mono HBR.out.size)) HX_0.out; have x1_ := below_cell (Below.trans HBR.out (hS_.mono HBR.out.size)) HX_1.out; have x2_ := below_cell (Below.trans HBR.out (hS_.mono HBR.out.size)) HX_2.out; have x3_ := below_cell (Below.trans HBR.out (hS_.mono HBR.out.size)) HX_3.out; have x4_ := below_cell (Below.trans HBR.out (hS_.mono HBR.out.size)) HX_4.out; have x5_ := below_cell (Below.trans HBR.out (hS_.mono HBR.out.size)) HX_5.out; have x6_ := below_cell (Below.trans HBR.out (hS_.mono HBR.out.size)) HX_6.out; have x7_ := below_cell (Below.trans HBR.out (hS_.mono HBR.out.size)) HX_7.out; have x8_ := below_cell (Below.trans HBR.out (hS_.mono HBR.out.size)) HX_8.out; have x9_ := below_cell (Below.trans HBR.out (hS_.mono HBR.out.size)) HX_9.out; have x10_ := below_cell (Below.trans HBR.out (hS_.mono HBR.out.size)) HX_10.out; have x11_ := below_cell (Below.trans HBR.out (hS_.mono HBR.out.size)) HX_11.out; go_simp <;> with_reducible rfl)
          refine takeE 11 (some 44) #[true, true, true, true, true, true, true, true, true, true, true, true, false, false] hS ?_ (hy := fun w_ hS_ => by (replace hS_ : Below WX.heap.size WX w_ := hS_); have x0_ := below_cell (Below.trans HBR.out (hS_.mono HBR.out.size)) HT0.out; have x1_ := below_cell (Below.trans HBR.out (hS_.mono HBR.out.size)) HT1.out; have x2_ := below_cell (Below.trans HBR.out (hS_.mono HBR.out.size)) HT2.out; have x3_ := below_cell (Below.trans HBR.out (hS_.mono HBR.out.size)) HT3.out; have x4_ := below_cell (Below.trans HBR.out (hS_.mono HBR.out.size)) HT4.out; have x5_ := below_cell (Below.trans HBR.out (hS_.mono HBR.out.size)) HT5.out; have x6_ := below_cell (Below.trans HBR.out (hS_.mono HBR.out.size)) HT6.out; have x7_ := below_cell (Below.trans HBR.out (hS_.mono HBR.out.size)) HT7.out; have x8_ := below_cell (Below.trans HBR.out (hS_.mono HBR.out.size)) HT8.out; have x9_ := below_cell (Below.trans HBR.out (hS_.mono HBR.out.size)) HT9.out; have x10_ := below_cell (Below.trans HBR.out (hS_.mono HBR.out.size)) HT10.out; have x11_ := below_cell (Below.trans HBR.out (hS_.mono HBR.out.size)) HT11.out; go_simp <;> with_reducible rfl)
          refine doD (i := 12) (ls2 := #[true, true, true, true, true, true, true, true, true, true, true, true, true, false]) (by kernel_rfl) rfl (by kernel_rfl) (by kernel_rfl) (fun K hK => ?_)
          go_simp
          go_wp2_with (first | (go_at_call 61; go_loud ((with_reducible refine (HAX.out _).mono ?_); rintro e w6 ⟨rfl, hb6⟩)))
          refine hK.out _ _ ?_ (fun hS_ => ?_)
          · show Below WX.heap.size WX _
            exact hS.trans (hb6.mono hS.size)
          clear hK K hS hb6
          have hS : Below WX.heap.size WX _ := hS_
          clear hS_
          refine takeE 13 (some 46) #[true, true, true, true, true, true, true, true, true, true, true, true, true, true] hS ?_
          refine wpAnyH_done (by kernel_rfl) ?_ _
          try go_simp
          have HSS := Lib.hid hS
          clear hS
          go_wp2
          go_meet
          case rel => exact ⟨rfl, HBR.out.trans (HSS.out.mono HBR.out.size)⟩
  case rest =>
    obtain ⟨rfl, hbr⟩ := hcut
    obtain ⟨WX, hWX⟩ : ∃ W, W = wc := ⟨_, rfl⟩
    subst hWX
    have HBR := Lib.hid hbr
    clear hbr
    have hin : i ≤ n := by have h1 := HP1.out; have h2 := HN.out; omega
    go_upto_region 8 with fail
    go_cut [11] from 49 to 63 (fun v11 wc => v11 = .bool is ∧ Below WI.heap.size WI wc)
    case first =>
      by_cases hj : i < n
      rotate_left
      · have d1 : decide ((i : Int) < (n : Int)) = false := decide_eq_false (by omega)
        have hisf : is = false := by rw [← HIS.out]; unfold isP; rw [decide_eq_false (by have := HN.out; omega)]; rfl
        subst hisf
        refine wp_region_held_drew (S := fun w_ => Below WX.heap.size WX w_) (by kernel_rfl) (below_drew (Below.refl _ _)) (fun hS_ => ?_)
        have hS : Below WX.heap.size WX _ := hS_
        clear hS_
        change wpAnyH _ _ _ _ _ 16 #[false, false, false, false, false, false, false, false, false, false, false, false, false, false, false, false] _ _
        refine takeE 0 (some 49) #[true, false, false, false, false, false, false, false, false, false, false, false, false, false, false, false] hS ?_
        refine takeE 1 (some 50) #[true, true, false, false, false, false, false, false, false, false, false, false, false, false, false, false] hS ?_
        refine takeE 2 (some 51) #[true, true, true, false, false, false, false, false, false, false, false, false, false, false, false, false] hS ?_ (hy := fun w_ hS_ => by (replace hS_ : Below WX.heap.size WX w_ := hS_); have x0_ := below_cell (Below.trans HBR.out (hS_.mono HBR.out.size)) HX4.out; go_simp <;> with_reducible rfl)
        refine doD (i := 3) (ls2 := #[true, true, true, true, false, false, false, false, false, false, false, false, false, false, false, false]) (by kernel_rfl) rfl (by kernel_rfl) (by kernel_rfl) (fun K hK => ?_)
        go_simp
        refine hK.out _ _ ?_ (fun hS_ => ?_)
        · show Below WX.heap.size WX _
          exact hS
        clear hK K hS
        have hS : Below WX.heap.size WX _ := hS_
        clear hS_
        refine takeE 4 (some 53) #[true, true, true, true, true, false, false, false, false, false, false, false, false, false, false, false] hS ?_
        refine takeE 5 (some 54) #[true, true, true, true, true, true, false, false, false, false, false, false, false, false, false, false] hS ?_
        refine offE 6 (some 55) #[true, true, true, true, true, true, true, false, false, false, false, false, false, false, false, false] hS ?_
        refine offE 7 (some 56) #[true, true, true, true, true, true, true, true, false, false, false, false, false, false, false, false] hS ?_
        refine offE 8 (some 57) #[true, true, true, true, true, true, true, true, true, false, false, false, false, false, false, false] hS ?_
        refine offE 9 (some 58) #[true, true, true, true, true, true, true, true, true, true, false, false, false, false, false, false] hS ?_
        refine offE 10 (some 59) #[true, true, true, true, true, true, true, true, true, true, true, false, false, false, false, false] hS ?_
        refine offE 11 (some 60) #[true, true, true, true, true, true, true, true, true, true, true, true, false, false, false, false] hS ?_
        refine offE 12 (some 61) #[true, true, true, true, true, true, true, true, true, true, true, true, true, false, false, false] hS ?_
        refine offE 13 (some 62) #[true, true, true, true, true, true, true, true, true, true, true, true, true, true, false, false] hS ?_
        refine takeE 14 (some 63) #[true, true, true, true, true, true, true, true, true, true, true, true, true, true, true, false] hS ?_
        refine takeE 15 (some 11) #[true, true, true, true, true, true, true, true, true, true, true, true, true, true, true, true] hS ?_
        refine wpAnyH_done (by kernel_rfl) ?_ _
        try go_simp
        have HSS := Lib.hid hS
        clear hS
        go_wp2
        go_meet
        case rel => exact ⟨rfl, HBR.out.trans (HSS.out.mono HBR.out.size)⟩
      · have d1 : decide ((i : Int) < (n : Int)) = true := decide_eq_true (by omega)
        have hbj : (0 : Int) ≤ (i : Int) ∧ (i : Int) < (n : Int) := by omega
        obtain ⟨adx, had, x0, x1, x2, x3, x4, x5, x6, x7, x8, x9, x10, x11⟩ := at_T46 (Kd.C_below HRA.out HAI.out.bw) (i : Int) (by omega) (by omega)
        cases had
        rw [Int.toNat_natCast] at x0 x1 x2 x3 x4 x5 x6 x7 x8 x9 x10 x11
        obtain ⟨x, hx⟩ : ∃ x, rd_T46 s.f4 (i : Int) = x := ⟨_, rfl⟩
        rw [hx] at x0 x1 x2 x3 x4 x5 x6 x7 x8 x9 x10 x11
        have HXE := Lib.hid hx
        have HX_0 := Lib.hid x0
        have HX_1 := Lib.hid x1
        have HX_2 := Lib.hid x2
        have HX_3 := Lib.hid x3
        have HX_4 := Lib.hid x4
        have HX_5 := Lib.hid x5
        have HX_6 := Lib.hid x6
        have HX_7 := Lib.hid x7
        have HX_8 := Lib.hid x8
        have HX_9 := Lib.hid x9
        have HX_10 := Lib.hid x10
        have HX_11 := Lib.hid x11
        clear x0 x1 x2 x3 x4 x5 x6 x7 x8 x9 x10 x11 hx
        have hax : ∀ w, Calls Try.prog 61 #[(.agg #[.int .i64 r.f0, .int .i64 r.f1, .int .i64 0, .int .i64 0, .int .i64 0, .int .i64 0, .int .i64 0, .int .i64 0, .int .i64 0, .int .i64 0, .int .i64 0, .int .i64 0]), cellV x] w fun e w' => e = .returned (.bool (aheadB ⟨r.f0, r.f1, z44⟩ x)) ∧ Below w.heap.size w w' := fun w => ahead_calls ⟨r.f0, r.f1, z44⟩ x w
        have hise : is = !aheadB ⟨r.f0, r.f1, z44⟩ x := by rw [← HIS.out]; unfold isP; rw [decide_eq_true (by have := HN.out; omega), HXE.out]; rfl
        obtain ⟨q1, hq1⟩ : ∃ q, aheadB ⟨r.f0, r.f1, z44⟩ x = q := ⟨_, rfl⟩
        rw [hq1] at hax hise
        subst hise
        have HAX := Lib.hid hax
        clear hax hq1
        refine wp_region_held_drew (S := fun w_ => Below WX.heap.size WX w_) (by kernel_rfl) (below_drew (Below.refl _ _)) (fun hS_ => ?_)
        have hS : Below WX.heap.size WX _ := hS_
        clear hS_
        change wpAnyH _ _ _ _ _ 16 #[false, false, false, false, false, false, false, false, false, false, false, false, false, false, false, false] _ _
        refine takeE 0 (some 49) #[true, false, false, false, false, false, false, false, false, false, false, false, false, false, false, false] hS ?_
        refine takeE 1 (some 50) #[true, true, false, false, false, false, false, false, false, false, false, false, false, false, false, false] hS ?_
        refine takeE 2 (some 51) #[true, true, true, false, false, false, false, false, false, false, false, false, false, false, false, false] hS ?_ (hy := fun w_ hS_ => by (replace hS_ : Below WX.heap.size WX w_ := hS_); have x0_ := below_cell (Below.trans HBR.out (hS_.mono HBR.out.size)) HX4.out; go_simp <;> with_reducible rfl)
        refine doD (i := 3) (ls2 := #[true, true, true, true, false, false, false, false, false, false, false, false, false, false, false, false]) (by kernel_rfl) rfl (by kernel_rfl) (by kernel_rfl) (fun K hK => ?_)
        go_simp
        refine hK.out _ _ ?_ (fun hS_ => ?_)
        · show Below WX.heap.size WX _
          exact hS
        clear hK K hS
        have hS : Below WX.heap.size WX _ := hS_
        clear hS_
        refine takeE 4 (some 53) #[true, true, true, true, true, false, false, false, false, false, false, false, false, false, false, false] hS ?_
        refine takeE 5 (some 54) #[true, true, true, true, true, true, false, false, false, false, false, false, false, false, false, false] hS ?_
        refine takeE 6 (some 55) #[true, true, true, true, true, true, true, false, false, false, false, false, false, false, false, false] hS ?_ (hy := fun w_ hS_ => by (replace hS_ : Below WX.heap.size WX w_ := hS_); have x0_ := below_cell (Below.trans HBR.out (hS_.mono HBR.out.size)) HT0.out; have x1_ := below_cell (Below.trans HBR.out (hS_.mono HBR.out.size)) HT1.out; have x2_ := below_cell (Below.trans HBR.out (hS_.mono HBR.out.size)) HT2.out; have x3_ := below_cell (Below.trans HBR.out (hS_.mono HBR.out.size)) HT3.out; have x4_ := below_cell (Below.trans HBR.out (hS_.mono HBR.out.size)) HT4.out; have x5_ := below_cell (Below.trans HBR.out (hS_.mono HBR.out.size)) HT5.out; have x6_ := below_cell (Below.trans HBR.out (hS_.mono HBR.out.size)) HT6.out; have x7_ := below_cell (Below.trans HBR.out (hS_.mono HBR.out.size)) HT7.out; have x8_ := below_cell (Below.trans HBR.out (hS_.mono HBR.out.size)) HT8.out; have x9_ := below_cell (Below.trans HBR.out (hS_.mono HBR.out.size)) HT9.out; have x10_ := below_cell (Below.trans HBR.out (hS_.mono HBR.out.size)) HT10.out; have x11_ := below_cell (Below.trans HBR.out (hS_.mono HBR.out.size)) HT11.out; go_simp <;> with_reducible rfl)
        refine takeE 7 (some 56) #[true, true, true, true, true, true, true, true, false, false, false, false, false, false, false, false] hS ?_
        refine takeE 8 (some 57) #[true, true, true, true, true, true, true, true, true, false, false, false, false, false, false, false] hS ?_ (hy := fun w_ hS_ => by (replace hS_ : Below WX.heap.size WX w_ := hS_); have x0_ := below_cell (Below.trans HBR.out (hS_.mono HBR.out.size)) HX4.out; go_simp <;> with_reducible rfl)
        refine takeE 9 (some 58) #[true, true, true, true, true, true, true, true, true, true, false, false, false, false, false, false] hS ?_
        refine takeE 10 (some 59) #[true, true, true, true, true, true, true, true, true, true, true, false, false, false, false, false] hS ?_
        refine takeE 11 (some 60) #[true, true, true, true, true, true, true, true, true, true, true, true, false, false, false, false] hS ?_ (hy := fun w_ hS_ => by (replace hS_ : Below WX.heap.size WX w_ := hS_); have x0_ := below_cell (Below.trans HBR.out (hS_.mono HBR.out.size)) HX_0.out; have x1_ := below_cell (Below.trans HBR.out (hS_.mono HBR.out.size)) HX_1.out; have x2_ := below_cell (Below.trans HBR.out (hS_.mono HBR.out.size)) HX_2.out; have x3_ := below_cell (Below.trans HBR.out (hS_.mono HBR.out.size)) HX_3.out; have x4_ := below_cell (Below.trans HBR.out (hS_.mono HBR.out.size)) HX_4.out; have x5_ := below_cell (Below.trans HBR.out (hS_.mono HBR.out.size)) HX_5.out; have x6_ := below_cell (Below.trans HBR.out (hS_.mono HBR.out.size)) HX_6.out; have x7_ := below_cell (Below.trans HBR.out (hS_.mono HBR.out.size)) HX_7.out; have x8_ := below_cell (Below.trans HBR.out (hS_.mono HBR.out.size)) HX_8.out; have x9_ := below_cell (Below.trans HBR.out (hS_.mono HBR.out.size)) HX_9.out; have x10_ := below_cell (Below.trans HBR.out (hS_.mono HBR.out.size)) HX_10.out; have x11_ := below_cell (Below.trans HBR.out (hS_.mono HBR.out.size)) HX_11.out; go_simp <;> with_reducible rfl)
        refine doD (i := 12) (ls2 := #[true, true, true, true, true, true, true, true, true, true, true, true, true, false, false, false]) (by kernel_rfl) rfl (by kernel_rfl) (by kernel_rfl) (fun K hK => ?_)
        go_simp
        go_wp2_with (first | (go_at_call 61; go_loud ((with_reducible refine (HAX.out _).mono ?_); rintro e w6 ⟨rfl, hb6⟩)))
        refine hK.out _ _ ?_ (fun hS_ => ?_)
        · show Below WX.heap.size WX _
          exact hS.trans (hb6.mono hS.size)
        clear hK K hS hb6
        have hS : Below WX.heap.size WX _ := hS_
        clear hS_
        refine takeE 13 (some 62) #[true, true, true, true, true, true, true, true, true, true, true, true, true, true, false, false] hS ?_
        refine takeE 14 (some 63) #[true, true, true, true, true, true, true, true, true, true, true, true, true, true, true, false] hS ?_
        refine takeE 15 (some 11) #[true, true, true, true, true, true, true, true, true, true, true, true, true, true, true, true] hS ?_
        refine wpAnyH_done (by kernel_rfl) ?_ _
        try go_simp
        have HSS := Lib.hid hS
        clear hS
        go_wp2
        go_meet
        case rel => exact ⟨rfl, HBR.out.trans (HSS.out.mono HBR.out.size)⟩
    case rest =>
      obtain ⟨rfl, hbr2⟩ := hcut
      obtain ⟨WY, hWY⟩ : ∃ W, W = wc := ⟨_, rfl⟩
      subst hWY
      clear HBR
      have HBR := Lib.hid hbr2
      have hx4 := below_cell hbr2 HX4.out
      have hcl := clone2_calls A c s.f4 WY (by have h := Kd.C_below HRA.out (HAI.out.bw.trans (hbr2.mono HAI.out.bw.size)); rw [← HN.out] at h; exact h) (by have := HN.out; omega) (by have := HN.out; omega)
      rw [HN.out] at hcl
      have HCL := Lib.hid hcl
      clear hcl hbr2
      go_upto_region 11 with (first | (go_at_call 42; go_loud ((with_reducible refine HCL.out.mono ?_); rintro e w9 ⟨v9, rfl, hR9, hb9⟩; obtain ⟨A12, c12, hv9, hc12, _⟩ := Kd.R_reads hR9; rw [HN.out] at hv9; subst hv9; have HR9 := Lib.hid hR9; have HB9 := Lib.hid hb9; clear hR9 hb9)))
      have hbi9 : Below WI.heap.size WI w9 := HBR.out.trans (HB9.out.mono HBR.out.size)
      have HA9 := Lib.hid (ApW.mk (blk_below HAI.out.b0 hbi9) (blk_below HAI.out.b1 hbi9) (blk_below HAI.out.b2 hbi9) (HAI.out.bw.trans (hbi9.mono HAI.out.bw.size)) : ApW w w9 s r A n c)
      have hwyl : w.heap.size + 2 < WY.heap.size ∧ ga < WY.heap.size := by
        have h1 := lt_of_block (blk_below HAI.out.b2 HBR.out)
        have h2 := lt_of_block (blk_below HAT.out HBR.out)
        omega
      have HWYL := Lib.hid hwyl
      have HAT9 := Lib.hid (blk_below HAT.out hbi9)
      have HRB9 := Lib.hid (R_base HR9.out (show w.heap.size ≤ WY.heap.size by omega) (Nat.le_refl _))
      clear hbi9 hwyl hx4
      obtain rfl : is = true := by rw [← HIS.out]; exact HISQ.out
      go_upto_region 18 with (first | (go_at_call 70; go_loud ((with_reducible refine (HDEC.out _).mono ?_); rintro e w10 ⟨rfl, hb10⟩; have HB10 := Lib.hid hb10; clear hb10)))
      obtain ⟨WA, hWA⟩ : ∃ W, W = w10.alloc (.cells #[.int .i64 a.f0, .int .i64 a.f1, .int .i64 a.f2, .int .i64 a.f3, .int .i64 a.f4.f0, .int .i64 a.f4.f1, .int .i64 a.f4.f2, .int .i64 a.f4.f3, .int .i64 a.f5, .int .i64 a.f6] 44) := ⟨_, rfl⟩
      rw [← hWA]
      have hwa : WA.heap[w10.heap.size]? = some (.cells #[.int .i64 a.f0, .int .i64 a.f1, .int .i64 a.f2, .int .i64 a.f3, .int .i64 a.f4.f0, .int .i64 a.f4.f1, .int .i64 a.f4.f2, .int .i64 a.f4.f3, .int .i64 a.f5, .int .i64 a.f6] 44 (0, 0)) := by rw [hWA]; exact heap_alloc_new _ _
      have hba : Below w9.heap.size w9 WA := by rw [hWA]; exact HB10.out.alloc HB10.out.size _
      have hq1 := blk_below HAT9.out hba
      have z0 : WA.cell? ⟨w10.heap.size, 0, none⟩ = some (.int .i64 a.f0) := (blk_cell hwa 0).trans rfl
      have z1 : WA.cell? ⟨w10.heap.size, 1, none⟩ = some (.int .i64 a.f1) := (blk_cell hwa 1).trans rfl
      have z2 : WA.cell? ⟨w10.heap.size, 2, none⟩ = some (.int .i64 a.f2) := (blk_cell hwa 2).trans rfl
      have z3 : WA.cell? ⟨w10.heap.size, 3, none⟩ = some (.int .i64 a.f3) := (blk_cell hwa 3).trans rfl
      have z4 : WA.cell? ⟨w10.heap.size, 4, none⟩ = some (.int .i64 a.f4.f0) := (blk_cell hwa 4).trans rfl
      have z5 : WA.cell? ⟨w10.heap.size, 5, none⟩ = some (.int .i64 a.f4.f1) := (blk_cell hwa 5).trans rfl
      have z6 : WA.cell? ⟨w10.heap.size, 6, none⟩ = some (.int .i64 a.f4.f2) := (blk_cell hwa 6).trans rfl
      have z7 : WA.cell? ⟨w10.heap.size, 7, none⟩ = some (.int .i64 a.f4.f3) := (blk_cell hwa 7).trans rfl
      have z8 : WA.cell? ⟨w10.heap.size, 8, none⟩ = some (.int .i64 a.f5) := (blk_cell hwa 8).trans rfl
      have z9 : WA.cell? ⟨w10.heap.size, 9, none⟩ = some (.int .i64 a.f6) := (blk_cell hwa 9).trans rfl
      have t2 : WA.cell? ⟨ga, 2, none⟩ = some (.int .i64 0) := (blk_cell hq1 2).trans rfl
      have f2 : WA.frozen? ⟨ga, 2, none⟩ = false := blk_frozen hq1 2
      have t3 : WA.cell? ⟨ga, 3, none⟩ = some (.int .i64 0) := (blk_cell hq1 3).trans rfl
      have f3 : WA.frozen? ⟨ga, 3, none⟩ = false := blk_frozen hq1 3
      have t4 : WA.cell? ⟨ga, 4, none⟩ = some (.int .i64 0) := (blk_cell hq1 4).trans rfl
      have f4 : WA.frozen? ⟨ga, 4, none⟩ = false := blk_frozen hq1 4
      have t5 : WA.cell? ⟨ga, 5, none⟩ = some (.int .i64 0) := (blk_cell hq1 5).trans rfl
      have f5 : WA.frozen? ⟨ga, 5, none⟩ = false := blk_frozen hq1 5
      have t6 : WA.cell? ⟨ga, 6, none⟩ = some (.int .i64 0) := (blk_cell hq1 6).trans rfl
      have f6 : WA.frozen? ⟨ga, 6, none⟩ = false := blk_frozen hq1 6
      have t7 : WA.cell? ⟨ga, 7, none⟩ = some (.int .i64 0) := (blk_cell hq1 7).trans rfl
      have f7 : WA.frozen? ⟨ga, 7, none⟩ = false := blk_frozen hq1 7
      have t8 : WA.cell? ⟨ga, 8, none⟩ = some (.int .i64 0) := (blk_cell hq1 8).trans rfl
      have f8 : WA.frozen? ⟨ga, 8, none⟩ = false := blk_frozen hq1 8
      have t9 : WA.cell? ⟨ga, 9, none⟩ = some (.int .i64 0) := (blk_cell hq1 9).trans rfl
      have f9 : WA.frozen? ⟨ga, 9, none⟩ = false := blk_frozen hq1 9
      have t10 : WA.cell? ⟨ga, 10, none⟩ = some (.int .i64 0) := (blk_cell hq1 10).trans rfl
      have f10 : WA.frozen? ⟨ga, 10, none⟩ = false := blk_frozen hq1 10
      have t11 : WA.cell? ⟨ga, 11, none⟩ = some (.int .i64 0) := (blk_cell hq1 11).trans rfl
      have f11 : WA.frozen? ⟨ga, 11, none⟩ = false := blk_frozen hq1 11
      have HQ1 := Lib.hid hq1
      have HBA := Lib.hid hba
      clear hWA hwa hba hq1
      go_upto_region 21 with fail
      obtain ⟨WU, hWU⟩ : ∃ W, W = (((((((((WA.setCell ⟨ga, 2, none⟩ (.int .i64 a.f0)).setCell ⟨ga, 3, none⟩ (.int .i64 a.f1)).setCell ⟨ga, 4, none⟩ (.int .i64 a.f2)).setCell ⟨ga, 5, none⟩ (.int .i64 a.f3)).setCell ⟨ga, 6, none⟩ (.int .i64 a.f4.f0)).setCell ⟨ga, 7, none⟩ (.int .i64 a.f4.f1)).setCell ⟨ga, 8, none⟩ (.int .i64 a.f4.f2)).setCell ⟨ga, 9, none⟩ (.int .i64 a.f4.f3)).setCell ⟨ga, 10, none⟩ (.int .i64 a.f5)).setCell ⟨ga, 11, none⟩ (.int .i64 a.f6) := ⟨_, rfl⟩
      have HAU := Lib.hid (show WU.heap[ga]? = some (.cells #[.int .i64 r.f0, .int .i64 r.f1, .int .i64 a.f0, .int .i64 a.f1, .int .i64 a.f2, .int .i64 a.f3, .int .i64 a.f4.f0, .int .i64 a.f4.f1, .int .i64 a.f4.f2, .int .i64 a.f4.f3, .int .i64 a.f5, .int .i64 a.f6] 46 (0, 0)) from by rw [hWU]; exact put10_heap HQ1.out (.int .i64 a.f0) (.int .i64 a.f1) (.int .i64 a.f2) (.int .i64 a.f3) (.int .i64 a.f4.f0) (.int .i64 a.f4.f1) (.int .i64 a.f4.f2) (.int .i64 a.f4.f3) (.int .i64 a.f5) (.int .i64 a.f6))
      have hgn : ga ≠ w.heap.size ∧ ga ≠ w.heap.size + 1 + 1 ∧ w.heap.size ≤ ga := by have h1 := lt_of_block HA3.out.b2; have h2 := HGL.out; omega
      have HB0 := Lib.hid (show WU.heap[w.heap.size]? = some (.cells #[.int .i64 s.f0, .int .i64 s.f1, .int .i64 s.f2, .int .i64 s.f3, .slice A n c] 28 (0, 0)) from by rw [hWU]; exact (put10_other hgn.1.symm (.int .i64 a.f0) (.int .i64 a.f1) (.int .i64 a.f2) (.int .i64 a.f3) (.int .i64 a.f4.f0) (.int .i64 a.f4.f1) (.int .i64 a.f4.f2) (.int .i64 a.f4.f3) (.int .i64 a.f5) (.int .i64 a.f6)).trans (blk_below HA9.out.b0 HBA.out))
      have HB2 := Lib.hid (show WU.heap[w.heap.size + 1 + 1]? = some (.cells #[.int .i64 0, .int .i64 0, .int .i64 0, .int .i64 0, .slice none 0 0] 28 (0, 0)) from by rw [hWU]; exact (put10_other hgn.2.1.symm (.int .i64 a.f0) (.int .i64 a.f1) (.int .i64 a.f2) (.int .i64 a.f3) (.int .i64 a.f4.f0) (.int .i64 a.f4.f1) (.int .i64 a.f4.f2) (.int .i64 a.f4.f3) (.int .i64 a.f5) (.int .i64 a.f6)).trans (blk_below HA9.out.b2 HBA.out))
      have HBU := Lib.hid (show Below w.heap.size w WU from by rw [hWU]; exact put10_below (HA9.out.bw.trans (HBA.out.mono HA9.out.bw.size)) hgn.2.2 (.int .i64 a.f0) (.int .i64 a.f1) (.int .i64 a.f2) (.int .i64 a.f3) (.int .i64 a.f4.f0) (.int .i64 a.f4.f1) (.int .i64 a.f4.f2) (.int .i64 a.f4.f3) (.int .i64 a.f5) (.int .i64 a.f6))
      have HRU := Lib.hid (show Kd.R k46 46 WU WY.heap.size (fun k => WY.heap.size ≤ k) (.slice A12 n c12) s.f4 from by rw [hWU]; exact R_other (Kd.R_below (R_base HR9.out (Nat.le_refl _) (Nat.le_refl _)) HBA.out) (fun k hk => put10_other (by have h1 : WY.heap.size ≤ k := hk; have h2 := HWYL.out; omega) (.int .i64 a.f0) (.int .i64 a.f1) (.int .i64 a.f2) (.int .i64 a.f3) (.int .i64 a.f4.f0) (.int .i64 a.f4.f1) (.int .i64 a.f4.f2) (.int .i64 a.f4.f3) (.int .i64 a.f5) (.int .i64 a.f6)))
      have hwus : WY.heap.size ≤ WU.heap.size := by rw [hWU]; have h1 := HB9.out.size; have h2 := HBA.out.size; have h3 := (put10_below (Below.refl 0 WA) (Nat.zero_le ga) (.int .i64 a.f0) (.int .i64 a.f1) (.int .i64 a.f2) (.int .i64 a.f3) (.int .i64 a.f4.f0) (.int .i64 a.f4.f1) (.int .i64 a.f4.f2) (.int .i64 a.f4.f3) (.int .i64 a.f5) (.int .i64 a.f6)).size; exact Nat.le_trans h1 (Nat.le_trans h2 h3)
      have HWUS := Lib.hid hwus
      rw [← hWU]
      clear hWU hwus hgn z0 z1 z2 z3 z4 z5 z6 z7 z8 z9 t2 t3 t4 t5 t6 t7 t8 t9 t10 t11 f2 f3 f4 f5 f6 f7 f8 f9 f10 f11
      have t0 : WU.cell? ⟨ga, 0, none⟩ = some (.int .i64 r.f0) := (blk_cell HAU.out 0).trans rfl
      have t1 : WU.cell? ⟨ga, 1, none⟩ = some (.int .i64 r.f1) := (blk_cell HAU.out 1).trans rfl
      have t2 : WU.cell? ⟨ga, 2, none⟩ = some (.int .i64 a.f0) := (blk_cell HAU.out 2).trans rfl
      have t3 : WU.cell? ⟨ga, 3, none⟩ = some (.int .i64 a.f1) := (blk_cell HAU.out 3).trans rfl
      have t4 : WU.cell? ⟨ga, 4, none⟩ = some (.int .i64 a.f2) := (blk_cell HAU.out 4).trans rfl
      have t5 : WU.cell? ⟨ga, 5, none⟩ = some (.int .i64 a.f3) := (blk_cell HAU.out 5).trans rfl
      have t6 : WU.cell? ⟨ga, 6, none⟩ = some (.int .i64 a.f4.f0) := (blk_cell HAU.out 6).trans rfl
      have t7 : WU.cell? ⟨ga, 7, none⟩ = some (.int .i64 a.f4.f1) := (blk_cell HAU.out 7).trans rfl
      have t8 : WU.cell? ⟨ga, 8, none⟩ = some (.int .i64 a.f4.f2) := (blk_cell HAU.out 8).trans rfl
      have t9 : WU.cell? ⟨ga, 9, none⟩ = some (.int .i64 a.f4.f3) := (blk_cell HAU.out 9).trans rfl
      have t10 : WU.cell? ⟨ga, 10, none⟩ = some (.int .i64 a.f5) := (blk_cell HAU.out 10).trans rfl
      have t11 : WU.cell? ⟨ga, 11, none⟩ = some (.int .i64 a.f6) := (blk_cell HAU.out 11).trans rfl
      have hlen : (s.f4.set i ⟨r.f0, r.f1, a⟩).length = n := by rw [List.length_set, HN.out]
      have HL12 := Lib.hid hlen
      have hisn : i < s.f4.length := by
        have h := HIS.out
        unfold isP at h
        simp only [Bool.and_eq_true, decide_eq_true_eq] at h
        exact h.1
      have hru := HRU.out
      rw [← HN.out] at hru
      obtain ⟨gr, c2, tl, he, hBg, _, hlc, hcm, htl, hg⟩ := row46 hru (by omega)
      injection he with he1 he2 he3
      subst he1 he3
      have hkk := HKK.out
      have hkt := HKT.out
      obtain ⟨y, hy⟩ : ∃ y, rd_T46 s.f4 (i : Int) = y := ⟨_, rfl⟩
      rw [hy] at hkk hkt
      have p0 : WU.cell? ⟨gr, i * 12 + 0, none⟩ = some (.int .i64 y.f0) := cell_at hg i hisn 0 _ (by rw [hy]; rfl)
      have g0 : WU.frozen? ⟨gr, i * 12 + 0, none⟩ = false := blk_frozen hg (i * 12 + 0)
      have p1 : WU.cell? ⟨gr, i * 12 + 1, none⟩ = some (.int .i64 y.f1) := cell_at hg i hisn 1 _ (by rw [hy]; rfl)
      have g1 : WU.frozen? ⟨gr, i * 12 + 1, none⟩ = false := blk_frozen hg (i * 12 + 1)
      have p2 : WU.cell? ⟨gr, i * 12 + 2, none⟩ = some (.int .i64 y.f2.f0) := cell_at hg i hisn 2 _ (by rw [hy]; rfl)
      have g2 : WU.frozen? ⟨gr, i * 12 + 2, none⟩ = false := blk_frozen hg (i * 12 + 2)
      have p3 : WU.cell? ⟨gr, i * 12 + 3, none⟩ = some (.int .i64 y.f2.f1) := cell_at hg i hisn 3 _ (by rw [hy]; rfl)
      have g3 : WU.frozen? ⟨gr, i * 12 + 3, none⟩ = false := blk_frozen hg (i * 12 + 3)
      have p4 : WU.cell? ⟨gr, i * 12 + 4, none⟩ = some (.int .i64 y.f2.f2) := cell_at hg i hisn 4 _ (by rw [hy]; rfl)
      have g4 : WU.frozen? ⟨gr, i * 12 + 4, none⟩ = false := blk_frozen hg (i * 12 + 4)
      have p5 : WU.cell? ⟨gr, i * 12 + 5, none⟩ = some (.int .i64 y.f2.f3) := cell_at hg i hisn 5 _ (by rw [hy]; rfl)
      have g5 : WU.frozen? ⟨gr, i * 12 + 5, none⟩ = false := blk_frozen hg (i * 12 + 5)
      have p6 : WU.cell? ⟨gr, i * 12 + 6, none⟩ = some (.int .i64 y.f2.f4.f0) := cell_at hg i hisn 6 _ (by rw [hy]; rfl)
      have g6 : WU.frozen? ⟨gr, i * 12 + 6, none⟩ = false := blk_frozen hg (i * 12 + 6)
      have p7 : WU.cell? ⟨gr, i * 12 + 7, none⟩ = some (.int .i64 y.f2.f4.f1) := cell_at hg i hisn 7 _ (by rw [hy]; rfl)
      have g7 : WU.frozen? ⟨gr, i * 12 + 7, none⟩ = false := blk_frozen hg (i * 12 + 7)
      have p8 : WU.cell? ⟨gr, i * 12 + 8, none⟩ = some (.int .i64 y.f2.f4.f2) := cell_at hg i hisn 8 _ (by rw [hy]; rfl)
      have g8 : WU.frozen? ⟨gr, i * 12 + 8, none⟩ = false := blk_frozen hg (i * 12 + 8)
      have p9 : WU.cell? ⟨gr, i * 12 + 9, none⟩ = some (.int .i64 y.f2.f4.f3) := cell_at hg i hisn 9 _ (by rw [hy]; rfl)
      have g9 : WU.frozen? ⟨gr, i * 12 + 9, none⟩ = false := blk_frozen hg (i * 12 + 9)
      have p10 : WU.cell? ⟨gr, i * 12 + 10, none⟩ = some (.int .i64 y.f2.f5) := cell_at hg i hisn 10 _ (by rw [hy]; rfl)
      have g10 : WU.frozen? ⟨gr, i * 12 + 10, none⟩ = false := blk_frozen hg (i * 12 + 10)
      have p11 : WU.cell? ⟨gr, i * 12 + 11, none⟩ = some (.int .i64 y.f2.f6) := cell_at hg i hisn 11 _ (by rw [hy]; rfl)
      have g11 : WU.frozen? ⟨gr, i * 12 + 11, none⟩ = false := blk_frozen hg (i * 12 + 11)
      rw [Nat.add_zero] at p0 g0
      have hbi : (0 : Int) ≤ (i : Int) ∧ (i : Int) < (n : Int) := by have := HN.out; omega
      have HGR := Lib.hid hg
      have HY := Lib.hid hy
      have HK0 := Lib.hid hkk
      have HK1 := Lib.hid hkt
      have HTL := Lib.hid htl
      have HCM := Lib.hid hcm
      have HLC := Lib.hid hlc
      have HBG := Lib.hid hBg
      have HISN := Lib.hid hisn
      clear hlen hru hg hy hkk hkt htl hcm hlc hBg hisn
      go_upto_region 26 with fail
      obtain ⟨WT, hWT⟩ : ∃ W, W = (((((((((((WU.setCell ⟨gr, i * 12, none⟩ (.int .i64 r.f0)).setCell ⟨gr, i * 12 + 1, none⟩ (.int .i64 r.f1)).setCell ⟨gr, i * 12 + 2, none⟩ (.int .i64 a.f0)).setCell ⟨gr, i * 12 + 3, none⟩ (.int .i64 a.f1)).setCell ⟨gr, i * 12 + 4, none⟩ (.int .i64 a.f2)).setCell ⟨gr, i * 12 + 5, none⟩ (.int .i64 a.f3)).setCell ⟨gr, i * 12 + 6, none⟩ (.int .i64 a.f4.f0)).setCell ⟨gr, i * 12 + 7, none⟩ (.int .i64 a.f4.f1)).setCell ⟨gr, i * 12 + 8, none⟩ (.int .i64 a.f4.f2)).setCell ⟨gr, i * 12 + 9, none⟩ (.int .i64 a.f4.f3)).setCell ⟨gr, i * 12 + 10, none⟩ (.int .i64 a.f5)).setCell ⟨gr, i * 12 + 11, none⟩ (.int .i64 a.f6) := ⟨_, rfl⟩
      have hput : WT = putR WU gr (i * 12) (⟨r.f0, r.f1, a⟩ : S46) := hWT
      have hbg := HBG.out
      have hwl := HWYL.out
      have HB0' := HB0
      have HB2' := HB2
      clear HB0 HB2
      have HB0 := Lib.hid (show WT.heap[w.heap.size]? = some (.cells #[.int .i64 s.f0, .int .i64 s.f1, .int .i64 s.f2, .int .i64 s.f3, .slice A n c] 28 (0, 0)) from by rw [hput]; exact (putR_other (by omega) (⟨r.f0, r.f1, a⟩ : S46)).trans HB0'.out)
      have HB2 := Lib.hid (show WT.heap[w.heap.size + 1 + 1]? = some (.cells #[.int .i64 0, .int .i64 0, .int .i64 0, .int .i64 0, .slice none 0 0] 28 (0, 0)) from by rw [hput]; exact (putR_other (by omega) (⟨r.f0, r.f1, a⟩ : S46)).trans HB2'.out)
      have HBT := Lib.hid (show Below w.heap.size w WT from by rw [hput]; exact putR_below HBU.out (by omega) (⟨r.f0, r.f1, a⟩ : S46))
      have hrt := row46_mk (w := WT) (l := (s.f4.set i ⟨r.f0, r.f1, a⟩)) (c := c12) (tl := tl) (B := w.heap.size) (ok := fun k => WY.heap.size ≤ k) (by omega) hbg (by rw [List.length_set]; exact HLC.out) HCM.out (by rw [List.length_set]; exact HTL.out) (by rw [hput]; exact putR_heap HGR.out i HISN.out (⟨r.f0, r.f1, a⟩ : S46))
      rw [HL12.out] at hrt
      have HRT := Lib.hid hrt
      rw [← hWT]
      clear hWT hput hrt hbg hwl t0 t1 t2 t3 t4 t5 t6 t7 t8 t9 t10 t11 p0 p1 p2 p3 p4 p5 p6 p7 p8 p9 p10 p11 g0 g1 g2 g3 g4 g5 g6 g7 g8 g9 g10 g11
      have z0 : WT.cell? ⟨w.heap.size, 0, none⟩ = some (.int .i64 s.f0) := (blk_cell HB0.out 0).trans rfl
      have z1 : WT.cell? ⟨w.heap.size, 1, none⟩ = some (.int .i64 s.f1) := (blk_cell HB0.out 1).trans rfl
      have z2 : WT.cell? ⟨w.heap.size, 2, none⟩ = some (.int .i64 s.f2) := (blk_cell HB0.out 2).trans rfl
      have z3 : WT.cell? ⟨w.heap.size, 3, none⟩ = some (.int .i64 s.f3) := (blk_cell HB0.out 3).trans rfl
      have z4 : WT.cell? ⟨w.heap.size, 4, none⟩ = some (.slice A n c) := (blk_cell HB0.out 4).trans rfl
      have y0 : WT.cell? ⟨w.heap.size + 1 + 1, 0, none⟩ = some (.int .i64 0) := (blk_cell HB2.out 0).trans rfl
      have y1 : WT.cell? ⟨w.heap.size + 1 + 1, 1, none⟩ = some (.int .i64 0) := (blk_cell HB2.out 1).trans rfl
      have y2 : WT.cell? ⟨w.heap.size + 1 + 1, 2, none⟩ = some (.int .i64 0) := (blk_cell HB2.out 2).trans rfl
      have y3 : WT.cell? ⟨w.heap.size + 1 + 1, 3, none⟩ = some (.int .i64 0) := (blk_cell HB2.out 3).trans rfl
      have y4 : WT.cell? ⟨w.heap.size + 1 + 1, 4, none⟩ = some (.slice none 0 0) := (blk_cell HB2.out 4).trans rfl
      have f4 := blk_frozen HB0.out 4
      have e0 : WT.frozen? ⟨w.heap.size + 1 + 1, 0, none⟩ = false := blk_frozen HB2.out 0
      have e1 : WT.frozen? ⟨w.heap.size + 1 + 1, 1, none⟩ = false := blk_frozen HB2.out 1
      have e2 : WT.frozen? ⟨w.heap.size + 1 + 1, 2, none⟩ = false := blk_frozen HB2.out 2
      have e3 : WT.frozen? ⟨w.heap.size + 1 + 1, 3, none⟩ = false := blk_frozen HB2.out 3
      have e4 : WT.frozen? ⟨w.heap.size + 1 + 1, 4, none⟩ = false := blk_frozen HB2.out 4
      go_wp2
      have hb2 : (WT.setCell ⟨w.heap.size, 4, none⟩ (.slice (some ⟨gr, 0, none⟩) n c12)).heap[w.heap.size + 1 + 1]? = some (.cells #[.int .i64 0, .int .i64 0, .int .i64 0, .int .i64 0, .slice none 0 0] 28 (0, 0)) := (heap_setCell_other _ _ _ _ (by show w.heap.size + 1 + 1 ≠ w.heap.size; omega)).trans HB2.out
      refine bodyPost_ret (results_ct' rfl _ _ (w.heap.size + 1 + 1) 28 #[.int .i64 s.f0, .int .i64 s.f1, .int .i64 s.f2, .int .i64 s.f3, .slice (some ⟨gr, 0, none⟩) n c12] (0, 0) _ rfl (put5_heap hb2 (.int .i64 s.f0) (.int .i64 s.f1) (.int .i64 s.f2) (.int .i64 s.f3) (.slice (some ⟨gr, 0, none⟩) n c12)) Try.underlying28 rfl (by kernel_rfl)) rfl ?_
      refine ⟨(some ⟨gr, 0, none⟩), c12, ?_, ?_, put5_below (HBT.out.setCell (p := ⟨w.heap.size, 4, none⟩) (Nat.le_refl _) _) (by omega) (.int .i64 s.f0) (.int .i64 s.f1) (.int .i64 s.f2) (.int .i64 s.f3) (.slice (some ⟨gr, 0, none⟩) n c12)⟩
      · show _ = Ending.returned (.tuple #[.agg #[.int .i64 s.f0, .int .i64 s.f1, .int .i64 s.f2, .int .i64 s.f3, .slice (some ⟨gr, 0, none⟩) (s.f4.set i ⟨r.f0, r.f1, a⟩).length c12], .int .i64 0])
        rw [HL12.out]
        rfl
      · rw [HN.out]
        refine R_ok (R_other HRT.out (fun k hk => ?_)) (fun _ _ => trivial)
        have hk' : WY.heap.size ≤ k := hk
        have hwy := HWYL.out
        exact (put5_other (by omega) (.int .i64 s.f0) (.int .i64 s.f1) (.int .i64 s.f2) (.int .i64 s.f3) (.slice (some ⟨gr, 0, none⟩) n c12)).trans (heap_setCell_other _ _ _ _ (by show k ≠ w.heap.size; omega))
end Go.Proofs.Ytgipepjpkmlmaaa.P
namespace Go.Proofs.Ytgipepjpkmlmaaa.P
open Go.RowKit Go.Proofs.YtgipepjpkmlmaaaW.PrintWords Go.Proofs.YtgipepjpkmlmaaaW.PrintLast Go.Proofs.YtgipepjpkmlmaaaW.PrintMore
set_option linter.unusedVariables false
set_option linter.unusedSimpArgs false
theorem below_setCells {B g : Nat} {w0 : World} : ∀ (vs : List Value) (o : Nat) {w : World}, Below B w0 w → B ≤ g → Below B w0 (w.setCells g o vs)
  | [], _, _, h, _ => h
  | v :: r, o, w, h, hg => below_setCells r (o + 1) (h.setCell (p := ⟨g, o, none⟩) hg v) hg
theorem append_run_op {P : Program} {o : Oper} {ac : Act} {K : Act → World → Prop} {Q : Exit → Act → World → Prop} {W w1 : World} {v1 : Value} (s x : Operand) (t : TypeId) (v y : Value)
    (ho : o.op = .call { callee := .builtin .append, args := #[s, x], argTypes := #[t, t] }) (hs : ac.eval s = v) (hx : ac.eval x = y)
    (hr : (Builtin.append_ #[t, t] o.type #[v, y]).run P W = .ok v1 w1) (h : K (ac.put o.dst v1) w1) : Oper.wp P o ac W K Q := by
  unfold Oper.wp execOp
  simp only [ho, resolve, invoke, builtin, Sem.run_bind, Sem.run_pure, Result.andThen_ok, List.map_toArray, List.map_cons, List.map_nil, hs, hx, hr]
  exact h
theorem run_append_in (w : World) (ty : TypeId) (g i c m c2 : Nat) (a : Addr) (news : List Value) (hl : news.length = m * 12) (hnews : ∀ j u, news[j]? = some u → w.cell? (a.add j) = some u) (h1 : ∀ u ∈ news, u.oneCell' = true) (hroom : i + m ≤ c)
    (cur : Array Value) (hg : w.heap[g]? = some (.cells cur 46 (0, 0))) (hfit : i * 12 + news.length ≤ cur.size) :
    (Builtin.append_ #[26, 26] ty #[.slice (some ⟨g, 0, none⟩) i c, .slice (some a) m c2]).run Try.prog w = .ok (.slice (some ⟨g, 0, none⟩) (i + m) c) (w.setCells g (i * 12) news) := by
  obtain ⟨inf, hinf⟩ : ∃ inf, Try.prog.info? 46 = some inf := Option.isSome_iff_exists.1 (by kernel_rfl)
  have hsz : inf.size = 12 := by
    have h : (Try.prog.info? 46).map (·.size) = some 12 := by kernel_rfl
    rw [hinf] at h
    exact Option.some.inj h
  have h := run_append_room_cells (P := Try.prog) w 26 ty 46 inf Try.underlying26 hinf g 0 i c a m c2 news (by rw [hsz]; exact hl) hnews h1 hroom (fun j hj => by rw [hsz, blk_cell hg]; simp only [Nat.zero_add]; rw [Array.getElem?_eq_getElem (by omega)]; rfl) (fun j hj => blk_frozen hg _)
  rw [hsz, Nat.zero_add] at h
  exact h
set_option maxHeartbeats 8000000 in
set_option maxRecDepth 100000 in
theorem deleteC_calls (B : Nat) (w0 w : World) (ok : Nat → Prop) (A : Option Addr) (c : Nat) (l : List S46) (i : Nat) (hi : i < l.length) (hl : l.length ≤ 1000) (hR : Kd.R k46 46 w B ok (.slice A l.length c) l) (hB : Below B w0 w) :
    Calls Try.prog 72 #[.slice A l.length c, .int .i64 (i : Int), .int .i64 ((i : Int) + 1)] w fun e w' => ∃ v, e = .returned v ∧ Kd.R k46 46 w' B ok v (l.take i ++ l.drop (i + 1)) ∧ Below B w0 w' := by
  obtain ⟨gr, c2, tl, he, hBg, hokg, hlc, hcm, htl, hg⟩ := row46 hR (by omega)
  injection he with he1 he2 he3
  subst he1 he3
  obtain ⟨n, hn⟩ : ∃ n, l.length = n := ⟨_, rfl⟩
  obtain ⟨D, hD⟩ : ∃ D, l.drop (i + 1) = D := ⟨_, rfl⟩
  have hDl : D.length = n - (i + 1) := by rw [← hD, List.length_drop, hn]
  obtain ⟨KK, hKK⟩ : ∃ K, l.take i ++ D = K := ⟨_, rfl⟩
  have hKl : KK.length = n - 1 := by rw [← hKK, List.length_append, List.length_take, hDl, hn]; omega
  rw [hD, hKK]
  obtain ⟨a, ha, hnews⟩ : ∃ a : Addr, (if c = i + 1 then some (⟨gr, 0, none⟩ : Addr) else some ⟨gr, (i + 1) * 12, none⟩) = some a ∧ ∀ j u, (flat D)[j]? = some u → w.cell? (a.add j) = some u := by
    by_cases hc : c = i + 1
    · refine ⟨⟨gr, 0, none⟩, by rw [if_pos hc], fun j u hj => ?_⟩
      have : D = [] := List.length_eq_zero_iff.1 (by rw [hDl]; omega)
      rw [this] at hj
      simp [flat] at hj
    · refine ⟨⟨gr, (i + 1) * 12, none⟩, by rw [if_neg hc], fun j u hj => ?_⟩
      have hjl : j < (flat D).length := (List.getElem?_eq_some_iff.1 hj).1
      have e : (⟨gr, (i + 1) * 12, none⟩ : Addr).add j = ⟨gr, (i + 1) * 12 + j, none⟩ := by
        unfold Addr.add
        split
        · subst_vars; rfl
        · rfl
      rw [e, blk_cell hg, List.getElem?_toArray]
      have hsp : flat l = flat (l.take (i + 1)) ++ flat D := by rw [← hD, ← flat_append, List.take_append_drop]
      have hpl : (flat (l.take (i + 1))).length = (i + 1) * 12 := by rw [flat_length, List.length_take, Nat.min_eq_left (by omega)]
      rw [hsp, List.append_assoc, List.getElem?_append_right (by rw [hpl]; omega), hpl, Nat.add_sub_cancel_left, List.getElem?_append_left hjl]
      exact hj
  have hone : ∀ u ∈ flat D, u.oneCell' = true := flat_one D
  have hcs : (flat l ++ tl).toArray.size = c * 12 := by rw [List.size_toArray, List.length_append, flat_length, htl]; omega
  have hfd : (flat D).length = (n - (i + 1)) * 12 := by rw [flat_length, hDl]
  have happ := fun ty => run_append_in w.drew ty gr i c (n - (i + 1)) (c - (i + 1)) a (flat D) hfd hnews hone (by omega) (flat l ++ tl).toArray (blk_drew hg) (by rw [hfd, hcs]; omega)
  obtain ⟨cur1, hg1, hs1, hc1⟩ := setCells_row (flat D) (i * 12) w.drew (flat l ++ tl).toArray (blk_drew hg) (by rw [hfd, hcs]; omega)
  have HAPP := Lib.hid happ
  have HG1 := Lib.hid hg1
  have HS1 := Lib.hid hs1
  have HC1 := Lib.hid hc1
  have HA := Lib.hid ha
  have HKL := Lib.hid hKl
  have HHD := Lib.hid (show l.take i ++ D = KK ∧ D.length = n - (i + 1) ∧ (flat D).length = (n - (i + 1)) * 12 from ⟨hKK, hDl, hfd⟩)
  have HN := Lib.hid hn
  have HCS := Lib.hid hcs
  rw [hn] at hi hl hlc ⊢
  have hin : ((i : Int) == (i : Int) + 1) = false := beq_eq_false_iff_ne.mpr (by omega)
  have hb1 : (0 : Int) ≤ (i : Int) ∧ (i : Int) ≤ (i : Int) + 1 := by omega
  have hb2 : (i : Int) + 1 ≤ (n : Int) := by omega
  have hb3 : (n : Int) ≤ (c : Int) := by omega
  have hb4 : (i : Int) ≤ (c : Int) := by omega
  have hb5 : (0 : Int) ≤ (i : Int) + 1 := by omega
  clear happ hg1 hs1 hc1 ha hKl hn hDl hfd hcs hone hnews hKK hD hR htl he2
  go_enter Try.func72, Try.ntmps72
  go_upto_region 5 with fail
  refine wp_region_held_drew (S := fun w_ => Below B w0 w_) (by kernel_rfl) (below_drew hB) (fun hS_ => ?_)
  have hS : Below B w0 _ := hS_
  clear hS_
  change wpAnyH _ _ _ _ _ 8 #[false, false, false, false, false, false, false, false] _ _
  refine takeE 0 (some 20) #[true, false, false, false, false, false, false, false] hS ?_
  refine takeE 1 (some 21) #[true, true, false, false, false, false, false, false] hS ?_
  refine takeE 2 (some 22) #[true, true, true, false, false, false, false, false] hS ?_
  refine takeE 3 (some 23) #[true, true, true, true, false, false, false, false] hS ?_
  refine takeE 4 (some 24) #[true, true, true, true, true, false, false, false] hS ?_
  refine takeE 5 (some 25) #[true, true, true, true, true, true, false, false] hS ?_ (hy := fun w_ hS_ => by have ha_ := HA.out; go_simp <;> with_reducible rfl)
  refine doD (i := 6) (ls2 := #[true, true, true, true, true, true, true, false]) (by kernel_rfl) rfl (by kernel_rfl) (by kernel_rfl) (fun K hK => ?_)
  refine append_run_op (.tmp 22) (.tmp 25) 26 _ _ rfl rfl rfl (HAPP.out _) ?_
  refine hK.out _ _ ?_ (fun hS_ => ?_)
  · show Below B w0 _
    exact below_setCells _ _ hS hBg
  clear hK K hS
  have hS : Below B w0 _ := hS_
  clear hS_
  refine takeE 7 (some 0) #[true, true, true, true, true, true, true, true] hS ?_
  refine wpAnyH_done (by kernel_rfl) ?_ _
  try go_simp
  obtain ⟨W1, hW1⟩ : ∃ W, W = w.drew.setCells gr (i * 12) (flat D) := ⟨_, rfl⟩
  rw [← hW1]
  have hg1 := HG1.out
  rw [← hW1] at hg1 hS
  have hm : i + (n - (i + 1)) = n - 1 := by omega
  rw [hm]
  obtain ⟨hKK, hDl, hfd⟩ := HHD.out
  have hcs := HCS.out
  obtain ⟨rst, hrst⟩ : ∃ r, (flat l ++ tl).drop (i * 12 + (flat D).length) = r := ⟨_, rfl⟩
  have hrl : rst.length = c * 12 - (n - 1) * 12 := by
    rw [← hrst, List.length_drop, ← List.size_toArray, hcs, hfd]
    omega
  have hcur : cur1 = (flat KK ++ rst).toArray := by
    apply Array.toList_inj.1
    rw [HC1.out]
    show (flat l ++ tl).take (i * 12) ++ flat D ++ (flat l ++ tl).drop _ = flat KK ++ rst
    rw [hrst, ← hKK, flat_append]
    congr 2
    have h1 : (flat (l.take i)).length = i * 12 := by rw [flat_length, List.length_take, Nat.min_eq_left (by have := HN.out; omega)]
    have h2 : flat l = flat (l.take i) ++ flat (l.drop i) := by rw [← flat_append, List.take_append_drop]
    rw [h2, List.append_assoc, ← h1, List.take_left]
  rw [hcur] at hg1
  have hkl := HKL.out
  have hfit : (n - 1) * 12 + 1 * (Value.cells (.agg #[.int .i64 0, .int .i64 0, .int .i64 0, .int .i64 0, .int .i64 0, .int .i64 0, .int .i64 0, .int .i64 0, .int .i64 0, .int .i64 0, .int .i64 0, .int .i64 0])).size ≤ (flat KK ++ rst).toArray.size := by
    have e0 : (Value.cells (.agg #[.int .i64 0, .int .i64 0, .int .i64 0, .int .i64 0, .int .i64 0, .int .i64 0, .int .i64 0, .int .i64 0, .int .i64 0, .int .i64 0, .int .i64 0, .int .i64 0])).size = 12 := rfl
    rw [e0, List.size_toArray, List.length_append, flat_length, hkl, hrl]
    omega
  have hone : ∀ v ∈ (Builtin.zeroCells (Value.cells (.agg #[.int .i64 0, .int .i64 0, .int .i64 0, .int .i64 0, .int .i64 0, .int .i64 0, .int .i64 0, .int .i64 0, .int .i64 0, .int .i64 0, .int .i64 0, .int .i64 0])) 1).toList, v.oneCell' = true := by
    intro v hv
    simp [Builtin.zeroCells, Value.cells] at hv
    obtain ⟨a, ha, rfl⟩ := hv
    have h12 : a % 12 < 12 := Nat.mod_lt _ (by omega)
    revert h12
    generalize a % 12 = q
    intro h12
    rcases (by omega : q = 0 ∨ q = 1 ∨ q = 2 ∨ q = 3 ∨ q = 4 ∨ q = 5 ∨ q = 6 ∨ q = 7 ∨ q = 8 ∨ q = 9 ∨ q = 10 ∨ q = 11) with rfl | rfl | rfl | rfl | rfl | rfl | rfl | rfl | rfl | rfl | rfl | rfl <;> rfl
  have hclr : ∀ ty, (Builtin.clear_ #[26] ty #[.slice (some ⟨gr, (n - 1) * 12, none⟩) 1 (c - (n - 1))]).run Try.prog W1 = .ok (.tuple #[]) (W1.setRow gr (laid (flat KK ++ rst) ((n - 1) * 12) (Builtin.zeroCells (Value.cells (.agg #[.int .i64 0, .int .i64 0, .int .i64 0, .int .i64 0, .int .i64 0, .int .i64 0, .int .i64 0, .int .i64 0, .int .i64 0, .int .i64 0, .int .i64 0, .int .i64 0])) 1).toList).toArray) := fun ty =>
    run_clear_k W1 26 46 ty (.agg #[.int .i64 0, .int .i64 0, .int .i64 0, .int .i64 0, .int .i64 0, .int .i64 0, .int .i64 0, .int .i64 0, .int .i64 0, .int .i64 0, .int .i64 0, .int .i64 0]) Try.underlying26 (fun w => by kernel_rfl) gr ((n - 1) * 12) 1 (c - (n - 1)) (flat KK ++ rst).toArray 46 hg1 hfit hone
  obtain ⟨ZS, hZS⟩ : ∃ ZS, ZS = (Builtin.zeroCells (Value.cells (.agg #[.int .i64 0, .int .i64 0, .int .i64 0, .int .i64 0, .int .i64 0, .int .i64 0, .int .i64 0, .int .i64 0, .int .i64 0, .int .i64 0, .int .i64 0, .int .i64 0])) 1).toList := ⟨_, rfl⟩
  have hzl : ZS.length = 12 := by rw [hZS, Array.length_toList, zc_size]; rfl
  rw [← hZS, laid_flat KK rst ZS (n - 1) (by omega), List.take_of_length_le (by omega)] at hclr
  obtain ⟨W2, hW2⟩ : ∃ W2, W2 = W1.setRow gr (flat KK ++ (ZS ++ (flat KK ++ rst).drop ((n - 1) * 12 + ZS.length))).toArray := ⟨_, rfl⟩
  have hg2 : W2.heap[gr]? = some (.cells (flat KK ++ (ZS ++ (flat KK ++ rst).drop ((n - 1) * 12 + ZS.length))).toArray 46 (0, 0)) := by rw [hW2]; exact setRow_heap _ _ _ _ _ _ hg1
  have hB2 : Below B w0 W2 := by rw [hW2]; exact below_setRow hS hBg _
  have hR2 : Kd.R k46 46 W2 B ok (.slice (some ⟨gr, 0, none⟩) (n - 1) c) KK := by
    have := row46_mk (l := KK) (c := c) hBg hokg (by omega) hcm (by rw [List.length_append, List.length_drop, List.length_append, flat_length, hzl, hkl, hrl]; omega) hg2
    rwa [hkl] at this
  have HR2 := Lib.hid hR2
  have HB2 := Lib.hid hB2
  rw [← hW2] at hclr
  obtain ⟨m, hmm⟩ : ∃ m, n - 1 = m := ⟨_, rfl⟩
  obtain rfl : n = m + 1 := by omega
  rw [hmm] at hclr HR2 ⊢
  have hcm1 : ¬ c = m := by omega
  have hq1 : (0 : Int) ≤ (m : Int) ∧ (m : Int) ≤ (m : Int) + 1 := by omega
  have hq2 : (m : Int) + 1 ≤ (c : Int) := by omega
  clear hR2 hB2 hg2 hW2 hzl hZS hone hfit hkl hcur hg1 hrl hrst hcs hKK hDl hfd hW1 hS hm hmm
  go_wp2
  go_ret
  exact ⟨_, rfl, HR2.out, HB2.out⟩
end Go.Proofs.Ytgipepjpkmlmaaa.P
namespace Go.Proofs.Ytgipepjpkmlmaaa.P
open Go.RowKit Go.Proofs.YtgipepjpkmlmaaaW.PrintWords Go.Proofs.YtgipepjpkmlmaaaW.PrintLast Go.Proofs.YtgipepjpkmlmaaaW.PrintMore
set_option linter.unusedVariables false
set_option linter.unusedSimpArgs false
set_option maxHeartbeats 16000000 in
set_option maxRecDepth 100000 in
theorem apply2_calls (s : S28) (r : S50) (rest : ByteArray) (i : Nat) (hdr : rest = ⟨#[]⟩) (hisq : isP s.f4 ⟨r.f0, r.f1, z44⟩ i = true) (A : Option Addr) (c : Nat) (w : World) (hra : Kd.C k46 w A s.f4.length s.f4) (hca : s.f4.length ≤ c) (hla : s.f4.length ≤ 1000)
    (htk : tkL r.f2 11 0 0 = (2, rest, 0)) (hrs : r.f2.size ≤ 1000000) (hpl : placeOk s.f4 ⟨r.f0, r.f1, z44⟩ i) :
    Calls Try.prog 36 #[.agg #[.int .i64 s.f0, .int .i64 s.f1, .int .i64 s.f2, .int .i64 s.f3, .slice A s.f4.length c], .agg #[.int .i64 r.f0, .int .i64 r.f1, .string r.f2]] w fun e w' => ∃ (A' : Option Addr) (c' : Nat), e = .returned (.tuple #[stV (⟨s.f0, s.f1, s.f2, s.f3, (s.f4.take i ++ s.f4.drop (i + 1))⟩ : S28) A' c', .int .i64 0]) ∧ Kd.R k46 46 w' w.heap.size (fun _ => True) (.slice A' ((⟨s.f0, s.f1, s.f2, s.f3, (s.f4.take i ++ s.f4.drop (i + 1))⟩ : S28)).f4.length c') ((⟨s.f0, s.f1, s.f2, s.f3, (s.f4.take i ++ s.f4.drop (i + 1))⟩ : S28)).f4 ∧ Below w.heap.size w w' := by
  have hvt := fun w => vtake_calls r.f2 w (by omega)
  rw [htk] at hvt
  have hrest : rest.size ≤ 1000000 := by have h := tk_size r.f2 11 0 0; rw [htk] at h; exact Nat.le_trans h hrs
  have HREST := Lib.hid hrest
  subst hdr
  have HISQ := Lib.hid hisq
  clear hisq
  clear hrest htk hrs
  obtain ⟨hp1, hp2, hp3⟩ := hpl
  have HP2 := Lib.hid hp2
  have HP3 := Lib.hid hp3
  have HP1 := Lib.hid hp1
  have hil : i ≤ 1000 := by omega
  clear hp2 hp3 hp1
  obtain ⟨is, his⟩ : ∃ q, isP s.f4 ⟨r.f0, r.f1, z44⟩ i = q := ⟨_, rfl⟩
  have HIS := Lib.hid his
  clear his
  obtain ⟨n, hn⟩ : ∃ n, s.f4.length = n := ⟨_, rfl⟩
  rw [hn] at hra hca hla ⊢
  have HN := Lib.hid hn
  have HRA := Lib.hid hra
  have HVT := Lib.hid hvt
  clear hn hra hvt
  obtain ⟨W3, hW3⟩ : ∃ W, W = ((w.alloc (.cells #[.int .i64 s.f0, .int .i64 s.f1, .int .i64 s.f2, .int .i64 s.f3, .slice A n c] 28)).alloc (.cells #[.int .i64 r.f0, .int .i64 r.f1, .string r.f2] 50)).alloc (.cells #[.int .i64 0, .int .i64 0, .int .i64 0, .int .i64 0, .slice none 0 0] 28) := ⟨_, rfl⟩
  have h0 : W3.heap[w.heap.size]? = some (.cells #[.int .i64 s.f0, .int .i64 s.f1, .int .i64 s.f2, .int .i64 s.f3, .slice A n c] 28 (0, 0)) := by
    rw [hW3]
    exact blk_below (blk_below (heap_alloc_new w _) ((Below.refl _ _).alloc (Nat.le_refl _) _)) ((Below.refl _ _).alloc (Nat.le_refl _) _)
  have h1 : W3.heap[w.heap.size + 1]? = some (.cells #[.int .i64 r.f0, .int .i64 r.f1, .string r.f2] 50 (0, 0)) := by
    rw [hW3]
    have := blk_below (heap_alloc_new (w.alloc (.cells #[.int .i64 s.f0, .int .i64 s.f1, .int .i64 s.f2, .int .i64 s.f3, .slice A n c] 28)) (.cells #[.int .i64 r.f0, .int .i64 r.f1, .string r.f2] 50)) ((Below.refl _ _).alloc (Nat.le_refl _) (.cells #[.int .i64 0, .int .i64 0, .int .i64 0, .int .i64 0, .slice none 0 0] 28))
    simpa using this
  have h2 : W3.heap[w.heap.size + 2]? = some (.cells #[.int .i64 0, .int .i64 0, .int .i64 0, .int .i64 0, .slice none 0 0] 28 (0, 0)) := by
    rw [hW3]
    have := heap_alloc_new ((w.alloc (.cells #[.int .i64 s.f0, .int .i64 s.f1, .int .i64 s.f2, .int .i64 s.f3, .slice A n c] 28)).alloc (.cells #[.int .i64 r.f0, .int .i64 r.f1, .string r.f2] 50)) (.cells #[.int .i64 0, .int .i64 0, .int .i64 0, .int .i64 0, .slice none 0 0] 28)
    simpa using this
  have hbw : Below w.heap.size w W3 := by rw [hW3]; exact below_alloc (below_alloc (below_alloc (Below.refl _ _) _) _) _
  have HA3 := Lib.hid (ApW.mk h0 h1 h2 hbw : ApW w W3 s r A n c)
  have HW3 := Lib.hid hW3
  have y2 : W3.cell? ⟨w.heap.size + 1, 2, none⟩ = some (.string r.f2) := (blk_cell h1 2).trans rfl
  clear hW3 h0 h1 h2 hbw
  go_enter Try.func36, Try.ntmps36
  go_upto_region 1 with fail
  rw [← HW3.out]
  go_upto_region 5 with (first | (go_at_call 68; go_loud ((with_reducible refine (HVT.out _).mono ?_); rintro e w4 ⟨rfl, hb4⟩; have HB4 := Lib.hid hb4; have hq := blk_below HA3.out.b1 hb4; have y0 : w4.cell? ⟨w.heap.size + 1, 0, none⟩ = some (.int .i64 r.f0) := (blk_cell hq 0).trans rfl; have y1 : w4.cell? ⟨w.heap.size + 1, 1, none⟩ = some (.int .i64 r.f1) := (blk_cell hq 1).trans rfl; clear hq hb4)))
  obtain ⟨WI, hWI⟩ : ∃ W, W = w4.alloc (.cells #[.int .i64 r.f0, .int .i64 r.f1, .int .i64 0, .int .i64 0, .int .i64 0, .int .i64 0, .int .i64 0, .int .i64 0, .int .i64 0, .int .i64 0, .int .i64 0, .int .i64 0] 46) := ⟨_, rfl⟩
  rw [← hWI]
  have hba : Below w4.heap.size w4 WI := by rw [hWI]; exact (Below.refl _ _).alloc (Nat.le_refl _) _
  have hbi : Below W3.heap.size W3 WI := HB4.out.trans (hba.mono HB4.out.size)
  have HAI := Lib.hid (ApW.mk (blk_below HA3.out.b0 hbi) (blk_below HA3.out.b1 hbi) (blk_below HA3.out.b2 hbi) (HA3.out.bw.trans (hbi.mono HA3.out.bw.size)) : ApW w WI s r A n c)
  have hat : WI.heap[w4.heap.size]? = some (.cells #[.int .i64 r.f0, .int .i64 r.f1, .int .i64 0, .int .i64 0, .int .i64 0, .int .i64 0, .int .i64 0, .int .i64 0, .int .i64 0, .int .i64 0, .int .i64 0, .int .i64 0] 46 (0, 0)) := by rw [hWI]; exact heap_alloc_new _ _
  obtain ⟨ga, hga⟩ : ∃ g, w4.heap.size = g := ⟨_, rfl⟩
  have hgl : w.heap.size + 2 < ga := by
    have h1 := lt_of_block HA3.out.b2
    have h2 := HB4.out.size
    omega
  rw [hga] at hat ⊢
  have HAT := Lib.hid hat
  have HGL := Lib.hid hgl
  have hx4 : WI.cell? ⟨w.heap.size, 4, none⟩ = some (.slice A n c) := (blk_cell HAI.out.b0 4).trans rfl
  have HX4 := Lib.hid hx4
  have HT0 := Lib.hid (show WI.cell? ⟨ga, 0, none⟩ = some (.int .i64 r.f0) from (blk_cell hat 0).trans rfl)
  have HT1 := Lib.hid (show WI.cell? ⟨ga, 1, none⟩ = some (.int .i64 r.f1) from (blk_cell hat 1).trans rfl)
  have HT2 := Lib.hid (show WI.cell? ⟨ga, 2, none⟩ = some (.int .i64 0) from (blk_cell hat 2).trans rfl)
  have HT3 := Lib.hid (show WI.cell? ⟨ga, 3, none⟩ = some (.int .i64 0) from (blk_cell hat 3).trans rfl)
  have HT4 := Lib.hid (show WI.cell? ⟨ga, 4, none⟩ = some (.int .i64 0) from (blk_cell hat 4).trans rfl)
  have HT5 := Lib.hid (show WI.cell? ⟨ga, 5, none⟩ = some (.int .i64 0) from (blk_cell hat 5).trans rfl)
  have HT6 := Lib.hid (show WI.cell? ⟨ga, 6, none⟩ = some (.int .i64 0) from (blk_cell hat 6).trans rfl)
  have HT7 := Lib.hid (show WI.cell? ⟨ga, 7, none⟩ = some (.int .i64 0) from (blk_cell hat 7).trans rfl)
  have HT8 := Lib.hid (show WI.cell? ⟨ga, 8, none⟩ = some (.int .i64 0) from (blk_cell hat 8).trans rfl)
  have HT9 := Lib.hid (show WI.cell? ⟨ga, 9, none⟩ = some (.int .i64 0) from (blk_cell hat 9).trans rfl)
  have HT10 := Lib.hid (show WI.cell? ⟨ga, 10, none⟩ = some (.int .i64 0) from (blk_cell hat 10).trans rfl)
  have HT11 := Lib.hid (show WI.cell? ⟨ga, 11, none⟩ = some (.int .i64 0) from (blk_cell hat 11).trans rfl)
  clear hWI hba hbi hat hx4 y0 y1 y2 hga hgl
  go_upto_block 0 with fail
  go_cut [10] from 33 to 48 (fun v10 wc => v10 = .int .i64 (i : Int) ∧ Below WI.heap.size WI wc)
  case first =>
    go_wp2
    go_loopg [10] n (fun kq v10 WX => ∃ (j : Nat), v10 = .int .i64 (j : Int) ∧ j ≤ i ∧ n - j ≤ kq ∧ Below WI.heap.size WI WX)
    case atStart => exact ⟨0, rfl, Nat.zero_le _, by omega, Below.refl _ _⟩
    case round =>
      obtain ⟨j, rfl, hji, hjk, hbr⟩ := hrel
      obtain ⟨WX, hWX⟩ : ∃ W, W = wr := ⟨_, rfl⟩
      subst hWX
      have HBR := Lib.hid hbr
      clear hbr
      have hin : i ≤ n := by have h1 := HP1.out; have h2 := HN.out; omega
      by_cases hj : j < n
      rotate_left
      · have d1 : decide ((j : Int) < (n : Int)) = false := decide_eq_false (by omega)
        obtain rfl : j = i := by omega
        go_wp2
        refine wp_region_held_drew (S := fun w_ => Below WX.heap.size WX w_) (by kernel_rfl) (below_drew (Below.refl _ _)) (fun hS_ => ?_)
        have hS : Below WX.heap.size WX _ := hS_
        clear hS_
        change wpAnyH _ _ _ _ _ 14 #[false, false, false, false, false, false, false, false, false, false, false, false, false, false] _ _
        refine takeE 0 (some 33) #[true, false, false, false, false, false, false, false, false, false, false, false, false, false] hS ?_
        refine takeE 1 (some 34) #[true, true, false, false, false, false, false, false, false, false, false, false, false, false] hS ?_
        refine takeE 2 (some 35) #[true, true, true, false, false, false, false, false, false, false, false, false, false, false] hS ?_ (hy := fun w_ hS_ => by (replace hS_ : Below WX.heap.size WX w_ := hS_); have x0_ := below_cell (Below.trans HBR.out (hS_.mono HBR.out.size)) HX4.out; go_simp <;> with_reducible rfl)
        refine doD (i := 3) (ls2 := #[true, true, true, true, false, false, false, false, false, false, false, false, false, false]) (by kernel_rfl) rfl (by kernel_rfl) (by kernel_rfl) (fun K hK => ?_)
        go_simp
        refine hK.out _ _ ?_ (fun hS_ => ?_)
        · show Below WX.heap.size WX _
          exact hS
        clear hK K hS
        have hS : Below WX.heap.size WX _ := hS_
        clear hS_
        refine takeE 4 (some 37) #[true, true, true, true, true, false, false, false, false, false, false, false, false, false] hS ?_
        refine takeE 5 (some 38) #[true, true, true, true, true, true, false, false, false, false, false, false, false, false] hS ?_
        refine offE 6 (some 39) #[true, true, true, true, true, true, true, false, false, false, false, false, false, false] hS ?_
        refine offE 7 (some 40) #[true, true, true, true, true, true, true, true, false, false, false, false, false, false] hS ?_
        refine offE 8 (some 41) #[true, true, true, true, true, true, true, true, true, false, false, false, false, false] hS ?_
        refine offE 9 (some 42) #[true, true, true, true, true, true, true, true, true, true, false, false, false, false] hS ?_
        refine offE 10 (some 43) #[true, true, true, true, true, true, true, true, true, true, true, false, false, false] hS ?_
        refine offE 11 (some 44) #[true, true, true, true, true, true, true, true, true, true, true, true, false, false] hS ?_
        refine offE 12 (some 45) #[true, true, true, true, true, true, true, true, true, true, true, true, true, false] hS ?_
        refine takeE 13 (some 46) #[true, true, true, true, true, true, true, true, true, true, true, true, true, true] hS ?_
        refine wpAnyH_done (by kernel_rfl) ?_ _
        try go_simp
        have HSS := Lib.hid hS
        clear hS
        go_wp2
        go_meet
        case rel => exact ⟨rfl, HBR.out.trans (HSS.out.mono HBR.out.size)⟩
      · have d1 : decide ((j : Int) < (n : Int)) = true := decide_eq_true (by omega)
        have hbj : (0 : Int) ≤ (j : Int) ∧ (j : Int) < (n : Int) := by omega
        have hwj : IntKind.i64.wrap ((j : Int) + 1) = ((j + 1 : Nat) : Int) := by rw [IntKind.wrap_i64]; omega
        obtain ⟨adx, had, x0, x1, x2, x3, x4, x5, x6, x7, x8, x9, x10, x11⟩ := at_T46 (Kd.C_below HRA.out HAI.out.bw) (j : Int) (by omega) (by omega)
        cases had
        rw [Int.toNat_natCast] at x0 x1 x2 x3 x4 x5 x6 x7 x8 x9 x10 x11
        obtain ⟨x, hx⟩ : ∃ x, rd_T46 s.f4 (j : Int) = x := ⟨_, rfl⟩
        rw [hx] at x0 x1 x2 x3 x4 x5 x6 x7 x8 x9 x10 x11
        have HXE := Lib.hid hx
        have HX_0 := Lib.hid x0
        have HX_1 := Lib.hid x1
        have HX_2 := Lib.hid x2
        have HX_3 := Lib.hid x3
        have HX_4 := Lib.hid x4
        have HX_5 := Lib.hid x5
        have HX_6 := Lib.hid x6
        have HX_7 := Lib.hid x7
        have HX_8 := Lib.hid x8
        have HX_9 := Lib.hid x9
        have HX_10 := Lib.hid x10
        have HX_11 := Lib.hid x11
        clear x0 x1 x2 x3 x4 x5 x6 x7 x8 x9 x10 x11 hx
        have hax : ∀ w, Calls Try.prog 61 #[cellV x, (.agg #[.int .i64 r.f0, .int .i64 r.f1, .int .i64 0, .int .i64 0, .int .i64 0, .int .i64 0, .int .i64 0, .int .i64 0, .int .i64 0, .int .i64 0, .int .i64 0, .int .i64 0])] w fun e w' => e = .returned (.bool (aheadB x ⟨r.f0, r.f1, z44⟩)) ∧ Below w.heap.size w w' := fun w => ahead_calls x ⟨r.f0, r.f1, z44⟩ w
        cases gk with
        | zero => omega
        | succ gk =>
        go_wp2
        by_cases hji2 : j < i
        · have hq1 : aheadB x ⟨r.f0, r.f1, z44⟩ = true := by rw [← HXE.out]; exact HP2.out j hji2
          rw [hq1] at hax
          have HAX := Lib.hid hax
          clear hax hq1
          refine wp_region_held_drew (S := fun w_ => Below WX.heap.size WX w_) (by kernel_rfl) (below_drew (Below.refl _ _)) (fun hS_ => ?_)
          have hS : Below WX.heap.size WX _ := hS_
          clear hS_
          change wpAnyH _ _ _ _ _ 14 #[false, false, false, false, false, false, false, false, false, false, false, false, false, false] _ _
          refine takeE 0 (some 33) #[true, false, false, false, false, false, false, false, false, false, false, false, false, false] hS ?_
          refine takeE 1 (some 34) #[true, true, false, false, false, false, false, false, false, false, false, false, false, false] hS ?_
          refine takeE 2 (some 35) #[true, true, true, false, false, false, false, false, false, false, false, false, false, false] hS ?_ (hy := fun w_ hS_ => by (replace hS_ : Below WX.heap.size WX w_ := hS_); have x0_ := below_cell (Below.trans HBR.out (hS_.mono HBR.out.size)) HX4.out; go_simp <;> with_reducible rfl)
          refine doD (i := 3) (ls2 := #[true, true, true, true, false, false, false, false, false, false, false, false, false, false]) (by kernel_rfl) rfl (by kernel_rfl) (by kernel_rfl) (fun K hK => ?_)
          go_simp
          refine hK.out _ _ ?_ (fun hS_ => ?_)
          · show Below WX.heap.size WX _
            exact hS
          clear hK K hS
          have hS : Below WX.heap.size WX _ := hS_
          clear hS_
          refine takeE 4 (some 37) #[true, true, true, true, true, false, false, false, false, false, false, false, false, false] hS ?_
          refine takeE 5 (some 38) #[true, true, true, true, true, true, false, false, false, false, false, false, false, false] hS ?_
          refine takeE 6 (some 39) #[true, true, true, true, true, true, true, false, false, false, false, false, false, false] hS ?_
          refine takeE 7 (some 40) #[true, true, true, true, true, true, true, true, false, false, false, false, false, false] hS ?_ (hy := fun w_ hS_ => by (replace hS_ : Below WX.heap.size WX w_ := hS_); have x0_ := below_cell (Below.trans HBR.out (hS_.mono HBR.out.size)) HX4.out; go_simp <;> with_reducible rfl)
          refine takeE 8 (some 41) #[true, true, true, true, true, true, true, true, true, false, false, false, false, false] hS ?_
          refine takeE 9 (some 42) #[true, true, true, true, true, true, true, true, true, true, false, false, false, false] hS ?_
          refine takeE 10 (some 43) #[true, true, true, true, true, true, true, true, true, true, true, false, false, false] hS ?_ (hy := fun w_ hS_ => by (replace hS_ : Below WX.heap.size WX w_ := hS_); have x0_ := below_cell (Below.trans HBR.out (hS_.mono HBR.out.size)) HX_0.out; have x1_ := below_cell (Below.trans HBR.out (hS_.mono HBR.out.size)) HX_1.out; have x2_ := below_cell (Below.trans HBR.out (hS_.mono HBR.out.size)) HX_2.out; have x3_ := below_cell (Below.trans HBR.out (hS_.mono HBR.out.size)) HX_3.out; have x4_ := below_cell (Below.trans HBR.out (hS_.mono HBR.out.size)) HX_4.out; have x5_ := below_cell (Below.trans HBR.out (hS_.mono HBR.out.size)) HX_5.out; have x6_ := below_cell (Below.trans HBR.out (hS_.mono HBR.out.size)) HX_6.out; have x7_ := below_cell (Below.trans HBR.out (hS_.mono HBR.out.size)) HX_7.out; have x8_ := below_cell (Below.trans HBR.out (hS_.mono HBR.out.size)) HX_8.out; have x9_ := below_cell (Below.trans HBR.out (hS_.mono HBR.out.size)) HX_9.out; have x10_ := below_cell (Below.trans HBR.out (hS_.mono HBR.out.size)) HX_10.out; have x11_ := below_cell (Below.trans HBR.out (hS_.mono HBR.out.size)) HX_11.out; go_simp <;> with_reducible rfl)
          refine takeE 11 (some 44) #[true, true, true, true, true, true, true, true, true, true, true, true, false, false] hS ?_ (hy := fun w_ hS_ => by (replace hS_ : Below WX.heap.size WX w_ := hS_); have x0_ := below_cell (Below.trans HBR.out (hS_.mono HBR.out.size)) HT0.out; have x1_ := below_cell (Below.trans HBR.out (hS_.mono HBR.out.size)) HT1.out; have x2_ := below_cell (Below.trans HBR.out (hS_.mono HBR.out.size)) HT2.out; have x3_ := below_cell (Below.trans HBR.out (hS_.mono HBR.out.size)) HT3.out; have x4_ := below_cell (Below.trans HBR.out (hS_.mono HBR.out.size)) HT4.out; have x5_ := below_cell (Below.trans HBR.out (hS_.mono HBR.out.size)) HT5.out; have x6_ := below_cell (Below.trans HBR.out (hS_.mono HBR.out.size)) HT6.out; have x7_ := below_cell (Below.trans HBR.out (hS_.mono HBR.out.size)) HT7.out; have x8_ := below_cell (Below.trans HBR.out (hS_.mono HBR.out.size)) HT8.out; have x9_ := below_cell (Below.trans HBR.out (hS_.mono HBR.out.size)) HT9.out; have x10_ := below_cell (Below.trans HBR.out (hS_.mono HBR.out.size)) HT10.out; have x11_ := below_cell (Below.trans HBR.out (hS_.mono HBR.out.size)) HT11.out; go_simp <;> with_reducible rfl)
          refine doD (i := 12) (ls2 := #[true, true, true, true, true, true, true, true, true, true, true, true, true, false]) (by kernel_rfl) rfl (by kernel_rfl) (by kernel_rfl) (fun K hK => ?_)
          go_simp
          go_wp2_with (first | (go_at_call 61; go_loud ((with_reducible refine (HAX.out _).mono ?_); rintro e w6 ⟨rfl, hb6⟩)))
          refine hK.out _ _ ?_ (fun hS_ => ?_)
          · show Below WX.heap.size WX _
            exact hS.trans (hb6.mono hS.size)
          clear hK K hS hb6
          have hS : Below WX.heap.size WX _ := hS_
          clear hS_
          refine takeE 13 (some 46) #[true, true, true, true, true, true, true, true, true, true, true, true, true, true] hS ?_
          refine wpAnyH_done (by kernel_rfl) ?_ _
          try go_simp
          have HSS := Lib.hid hS
          clear hS
          go_wp2
          go_roundg gk
          case measure => omega
          case rel => exact ⟨j + 1, by first | rfl | (congr 1), by omega, by omega, HBR.out.trans (HSS.out.mono HBR.out.size)⟩
        · obtain rfl : j = i := by omega
          have hq1 : aheadB x ⟨r.f0, r.f1, z44⟩ = false := by rw [← HXE.out]; exact HP3.out (by have := HN.out; omega)
          rw [hq1] at hax
          have HAX := Lib.hid hax
          clear hax hq1
          refine wp_region_held_drew (S := fun w_ => Below WX.heap.size WX w_) (by kernel_rfl) (below_drew (Below.refl _ _)) (fun hS_ => ?_)
          have hS : Below WX.heap.size WX _ := hS_
          clear hS_
          change wpAnyH _ _ _ _ _ 14 #[false, false, false, false, false, false, false, false, false, false, false, false, false, false] _ _
          refine takeE 0 (some 33) #[true, false, false, false, false, false, false, false, false, false, false, false, false, false] hS ?_
          refine takeE 1 (some 34) #[true, true, false, false, false, false, false, false, false, false, false, false, false, false] hS ?_
          refine takeE 2 (some 35) #[true, true, true, false, false, false, false, false, false, false, false, false, false, false] hS ?_ (hy := fun w_ hS_ => by (replace hS_ : Below WX.heap.size WX w_ := hS_); have x0_ := below_cell (Below.trans HBR.out (hS_.mono HBR.out.size)) HX4.out; go_simp <;> with_reducible rfl)
          refine doD (i := 3) (ls2 := #[true, true, true, true, false, false, false, false, false, false, false, false, false, false]) (by kernel_rfl) rfl (by kernel_rfl) (by kernel_rfl) (fun K hK => ?_)
          go_simp
          refine hK.out _ _ ?_ (fun hS_ => ?_)
          · show Below WX.heap.size WX _
            exact hS
          clear hK K hS
          have hS : Below WX.heap.size WX _ := hS_
          clear hS_
          refine takeE 4 (some 37) #[true, true, true, true, true, false, false, false, false, false, false, false, false, false] hS ?_
          refine takeE 5 (some 38) #[true, true, true, true, true, true, false, false, false, false, false, false, false, false] hS ?_
          refine takeE 6 (some 39) #[true, true, true, true, true, true, true, false, false, false, false, false, false, false] hS ?_
          refine takeE 7 (some 40) #[true, true, true, true, true, true, true, true, false, false, false, false, false, false] hS ?_ (hy := fun w_ hS_ => by (replace hS_ : Below WX.heap.size WX w_ := hS_); have x0_ := below_cell (Below.trans HBR.out (hS_.mono HBR.out.size)) HX4.out; go_simp <;> with_reducible rfl)
          refine takeE 8 (some 41) #[true, true, true, true, true, true, true, true, true, false, false, false, false, false] hS ?_
          refine takeE 9 (some 42) #[true, true, true, true, true, true, true, true, true, true, false, false, false, false] hS ?_
          refine takeE 10 (some 43) #[true, true, true, true, true, true, true, true, true, true, true, false, false, false] hS ?_ (hy := fun w_ hS_ => by (replace hS_ : Below WX.heap.size WX w_ := hS_); have x0_ := below_cell (Below.trans HBR.out (hS_.mono HBR.out.size)) HX_0.out; have x1_ := below_cell (Below.trans HBR.out (hS_.mono HBR.out.size)) HX_1.out; have x2_ := below_cell (Below.trans HBR.out (hS_.mono HBR.out.size)) HX_2.out; have x3_ := below_cell (Below.trans HBR.out (hS_.mono HBR.out.size)) HX_3.out; have x4_ := below_cell (Below.trans HBR.out (hS_.mono HBR.out.size)) HX_4.out; have x5_ := below_cell (Below.trans HBR.out (hS_.mono HBR.out.size)) HX_5.out; have x6_ := below_cell (Below.trans HBR.out (hS_.mono HBR.out.size)) HX_6.out; have x7_ := below_cell (Below.trans HBR.out (hS_.mono HBR.out.size)) HX_7.out; have x8_ := below_cell (Below.trans HBR.out (hS_.mono HBR.out.size)) HX_8.out; have x9_ := below_cell (Below.trans HBR.out (hS_.mono HBR.out.size)) HX_9.out; have x10_ := below_cell (Below.trans HBR.out (hS_.mono HBR.out.size)) HX_10.out; have x11_ := below_cell (Below.trans HBR.out (hS_.mono HBR.out.size)) HX_11.out; go_simp <;> with_reducible rfl)
          refine takeE 11 (some 44) #[true, true, true, true, true, true, true, true, true, true, true, true, false, false] hS ?_ (hy := fun w_ hS_ => by (replace hS_ : Below WX.heap.size WX w_ := hS_); have x0_ := below_cell (Below.trans HBR.out (hS_.mono HBR.out.size)) HT0.out; have x1_ := below_cell (Below.trans HBR.out (hS_.mono HBR.out.size)) HT1.out; have x2_ := below_cell (Below.trans HBR.out (hS_.mono HBR.out.size)) HT2.out; have x3_ := below_cell (Below.trans HBR.out (hS_.mono HBR.out.size)) HT3.out; have x4_ := below_cell (Below.trans HBR.out (hS_.mono HBR.out.size)) HT4.out; have x5_ := below_cell (Below.trans HBR.out (hS_.mono HBR.out.size)) HT5.out; have x6_ := below_cell (Below.trans HBR.out (hS_.mono HBR.out.size)) HT6.out; have x7_ := below_cell (Below.trans HBR.out (hS_.mono HBR.out.size)) HT7.out; have x8_ := below_cell (Below.trans HBR.out (hS_.mono HBR.out.size)) HT8.out; have x9_ := below_cell (Below.trans HBR.out (hS_.mono HBR.out.size)) HT9.out; have x10_ := below_cell (Below.trans HBR.out (hS_.mono HBR.out.size)) HT10.out; have x11_ := below_cell (Below.trans HBR.out (hS_.mono HBR.out.size)) HT11.out; go_simp <;> with_reducible rfl)
          refine doD (i := 12) (ls2 := #[true, true, true, true, true, true, true, true, true, true, true, true, true, false]) (by kernel_rfl) rfl (by kernel_rfl) (by kernel_rfl) (fun K hK => ?_)
          go_simp
          go_wp2_with (first | (go_at_call 61; go_loud ((with_reducible refine (HAX.out _).mono ?_); rintro e w6 ⟨rfl, hb6⟩)))
          refine hK.out _ _ ?_ (fun hS_ => ?_)
          · show Below WX.heap.size WX _
            exact hS.trans (hb6.mono hS.size)
          clear hK K hS hb6
          have hS : Below WX.heap.size WX _ := hS_
          clear hS_
          refine takeE 13 (some 46) #[true, true, true, true, true, true, true, true, true, true, true, true, true, true] hS ?_
          refine wpAnyH_done (by kernel_rfl) ?_ _
          try go_simp
          have HSS := Lib.hid hS
          clear hS
          go_wp2
          go_meet
          case rel => exact ⟨rfl, HBR.out.trans (HSS.out.mono HBR.out.size)⟩
  case rest =>
    obtain ⟨rfl, hbr⟩ := hcut
    obtain ⟨WX, hWX⟩ : ∃ W, W = wc := ⟨_, rfl⟩
    subst hWX
    have HBR := Lib.hid hbr
    clear hbr
    have hin : i ≤ n := by have h1 := HP1.out; have h2 := HN.out; omega
    go_upto_region 8 with fail
    go_cut [11] from 49 to 63 (fun v11 wc => v11 = .bool is ∧ Below WI.heap.size WI wc)
    case first =>
      by_cases hj : i < n
      rotate_left
      · have d1 : decide ((i : Int) < (n : Int)) = false := decide_eq_false (by omega)
        have hisf : is = false := by rw [← HIS.out]; unfold isP; rw [decide_eq_false (by have := HN.out; omega)]; rfl
        subst hisf
        refine wp_region_held_drew (S := fun w_ => Below WX.heap.size WX w_) (by kernel_rfl) (below_drew (Below.refl _ _)) (fun hS_ => ?_)
        have hS : Below WX.heap.size WX _ := hS_
        clear hS_
        change wpAnyH _ _ _ _ _ 16 #[false, false, false, false, false, false, false, false, false, false, false, false, false, false, false, false] _ _
        refine takeE 0 (some 49) #[true, false, false, false, false, false, false, false, false, false, false, false, false, false, false, false] hS ?_
        refine takeE 1 (some 50) #[true, true, false, false, false, false, false, false, false, false, false, false, false, false, false, false] hS ?_
        refine takeE 2 (some 51) #[true, true, true, false, false, false, false, false, false, false, false, false, false, false, false, false] hS ?_ (hy := fun w_ hS_ => by (replace hS_ : Below WX.heap.size WX w_ := hS_); have x0_ := below_cell (Below.trans HBR.out (hS_.mono HBR.out.size)) HX4.out; go_simp <;> with_reducible rfl)
        refine doD (i := 3) (ls2 := #[true, true, true, true, false, false, false, false, false, false, false, false, false, false, false, false]) (by kernel_rfl) rfl (by kernel_rfl) (by kernel_rfl) (fun K hK => ?_)
        go_simp
        refine hK.out _ _ ?_ (fun hS_ => ?_)
        · show Below WX.heap.size WX _
          exact hS
        clear hK K hS
        have hS : Below WX.heap.size WX _ := hS_
        clear hS_
        refine takeE 4 (some 53) #[true, true, true, true, true, false, false, false, false, false, false, false, false, false, false, false] hS ?_
        refine takeE 5 (some 54) #[true, true, true, true, true, true, false, false, false, false, false, false, false, false, false, false] hS ?_
        refine offE 6 (some 55) #[true, true, true, true, true, true, true, false, false, false, false, false, false, false, false, false] hS ?_
        refine offE 7 (some 56) #[true, true, true, true, true, true, true, true, false, false, false, false, false, false, false, false] hS ?_
        refine offE 8 (some 57) #[true, true, true, true, true, true, true, true, true, false, false, false, false, false, false, false] hS ?_
        refine offE 9 (some 58) #[true, true, true, true, true, true, true, true, true, true, false, false, false, false, false, false] hS ?_
        refine offE 10 (some 59) #[true, true, true, true, true, true, true, true, true, true, true, false, false, false, false, false] hS ?_
        refine offE 11 (some 60) #[true, true, true, true, true, true, true, true, true, true, true, true, false, false, false, false] hS ?_
        refine offE 12 (some 61) #[true, true, true, true, true, true, true, true, true, true, true, true, true, false, false, false] hS ?_
        refine offE 13 (some 62) #[true, true, true, true, true, true, true, true, true, true, true, true, true, true, false, false] hS ?_
        refine takeE 14 (some 63) #[true, true, true, true, true, true, true, true, true, true, true, true, true, true, true, false] hS ?_
        refine takeE 15 (some 11) #[true, true, true, true, true, true, true, true, true, true, true, true, true, true, true, true] hS ?_
        refine wpAnyH_done (by kernel_rfl) ?_ _
        try go_simp
        have HSS := Lib.hid hS
        clear hS
        go_wp2
        go_meet
        case rel => exact ⟨rfl, HBR.out.trans (HSS.out.mono HBR.out.size)⟩
      · have d1 : decide ((i : Int) < (n : Int)) = true := decide_eq_true (by omega)
        have hbj : (0 : Int) ≤ (i : Int) ∧ (i : Int) < (n : Int) := by omega
        obtain ⟨adx, had, x0, x1, x2, x3, x4, x5, x6, x7, x8, x9, x10, x11⟩ := at_T46 (Kd.C_below HRA.out HAI.out.bw) (i : Int) (by omega) (by omega)
        cases had
        rw [Int.toNat_natCast] at x0 x1 x2 x3 x4 x5 x6 x7 x8 x9 x10 x11
        obtain ⟨x, hx⟩ : ∃ x, rd_T46 s.f4 (i : Int) = x := ⟨_, rfl⟩
        rw [hx] at x0 x1 x2 x3 x4 x5 x6 x7 x8 x9 x10 x11
        have HXE := Lib.hid hx
        have HX_0 := Lib.hid x0
        have HX_1 := Lib.hid x1
        have HX_2 := Lib.hid x2
        have HX_3 := Lib.hid x3
        have HX_4 := Lib.hid x4
        have HX_5 := Lib.hid x5
        have HX_6 := Lib.hid x6
        have HX_7 := Lib.hid x7
        have HX_8 := Lib.hid x8
        have HX_9 := Lib.hid x9
        have HX_10 := Lib.hid x10
        have HX_11 := Lib.hid x11
        clear x0 x1 x2 x3 x4 x5 x6 x7 x8 x9 x10 x11 hx
        have hax : ∀ w, Calls Try.prog 61 #[(.agg #[.int .i64 r.f0, .int .i64 r.f1, .int .i64 0, .int .i64 0, .int .i64 0, .int .i64 0, .int .i64 0, .int .i64 0, .int .i64 0, .int .i64 0, .int .i64 0, .int .i64 0]), cellV x] w fun e w' => e = .returned (.bool (aheadB ⟨r.f0, r.f1, z44⟩ x)) ∧ Below w.heap.size w w' := fun w => ahead_calls ⟨r.f0, r.f1, z44⟩ x w
        have hise : is = !aheadB ⟨r.f0, r.f1, z44⟩ x := by rw [← HIS.out]; unfold isP; rw [decide_eq_true (by have := HN.out; omega), HXE.out]; rfl
        obtain ⟨q1, hq1⟩ : ∃ q, aheadB ⟨r.f0, r.f1, z44⟩ x = q := ⟨_, rfl⟩
        rw [hq1] at hax hise
        subst hise
        have HAX := Lib.hid hax
        clear hax hq1
        refine wp_region_held_drew (S := fun w_ => Below WX.heap.size WX w_) (by kernel_rfl) (below_drew (Below.refl _ _)) (fun hS_ => ?_)
        have hS : Below WX.heap.size WX _ := hS_
        clear hS_
        change wpAnyH _ _ _ _ _ 16 #[false, false, false, false, false, false, false, false, false, false, false, false, false, false, false, false] _ _
        refine takeE 0 (some 49) #[true, false, false, false, false, false, false, false, false, false, false, false, false, false, false, false] hS ?_
        refine takeE 1 (some 50) #[true, true, false, false, false, false, false, false, false, false, false, false, false, false, false, false] hS ?_
        refine takeE 2 (some 51) #[true, true, true, false, false, false, false, false, false, false, false, false, false, false, false, false] hS ?_ (hy := fun w_ hS_ => by (replace hS_ : Below WX.heap.size WX w_ := hS_); have x0_ := below_cell (Below.trans HBR.out (hS_.mono HBR.out.size)) HX4.out; go_simp <;> with_reducible rfl)
        refine doD (i := 3) (ls2 := #[true, true, true, true, false, false, false, false, false, false, false, false, false, false, false, false]) (by kernel_rfl) rfl (by kernel_rfl) (by kernel_rfl) (fun K hK => ?_)
        go_simp
        refine hK.out _ _ ?_ (fun hS_ => ?_)
        · show Below WX.heap.size WX _
          exact hS
        clear hK K hS
        have hS : Below WX.heap.size WX _ := hS_
        clear hS_
        refine takeE 4 (some 53) #[true, true, true, true, true, false, false, false, false, false, false, false, false, false, false, false] hS ?_
        refine takeE 5 (some 54) #[true, true, true, true, true, true, false, false, false, false, false, false, false, false, false, false] hS ?_
        refine takeE 6 (some 55) #[true, true, true, true, true, true, true, false, false, false, false, false, false, false, false, false] hS ?_ (hy := fun w_ hS_ => by (replace hS_ : Below WX.heap.size WX w_ := hS_); have x0_ := below_cell (Below.trans HBR.out (hS_.mono HBR.out.size)) HT0.out; have x1_ := below_cell (Below.trans HBR.out (hS_.mono HBR.out.size)) HT1.out; have x2_ := below_cell (Below.trans HBR.out (hS_.mono HBR.out.size)) HT2.out; have x3_ := below_cell (Below.trans HBR.out (hS_.mono HBR.out.size)) HT3.out; have x4_ := below_cell (Below.trans HBR.out (hS_.mono HBR.out.size)) HT4.out; have x5_ := below_cell (Below.trans HBR.out (hS_.mono HBR.out.size)) HT5.out; have x6_ := below_cell (Below.trans HBR.out (hS_.mono HBR.out.size)) HT6.out; have x7_ := below_cell (Below.trans HBR.out (hS_.mono HBR.out.size)) HT7.out; have x8_ := below_cell (Below.trans HBR.out (hS_.mono HBR.out.size)) HT8.out; have x9_ := below_cell (Below.trans HBR.out (hS_.mono HBR.out.size)) HT9.out; have x10_ := below_cell (Below.trans HBR.out (hS_.mono HBR.out.size)) HT10.out; have x11_ := below_cell (Below.trans HBR.out (hS_.mono HBR.out.size)) HT11.out; go_simp <;> with_reducible rfl)
        refine takeE 7 (some 56) #[true, true, true, true, true, true, true, true, false, false, false, false, false, false, false, false] hS ?_
        refine takeE 8 (some 57) #[true, true, true, true, true, true, true, true, true, false, false, false, false, false, false, false] hS ?_ (hy := fun w_ hS_ => by (replace hS_ : Below WX.heap.size WX w_ := hS_); have x0_ := below_cell (Below.trans HBR.out (hS_.mono HBR.out.size)) HX4.out; go_simp <;> with_reducible rfl)
        refine takeE 9 (some 58) #[true, true, true, true, true, true, true, true, true, true, false, false, false, false, false, false] hS ?_
        refine takeE 10 (some 59) #[true, true, true, true, true, true, true, true, true, true, true, false, false, false, false, false] hS ?_
        refine takeE 11 (some 60) #[true, true, true, true, true, true, true, true, true, true, true, true, false, false, false, false] hS ?_ (hy := fun w_ hS_ => by (replace hS_ : Below WX.heap.size WX w_ := hS_); have x0_ := below_cell (Below.trans HBR.out (hS_.mono HBR.out.size)) HX_0.out; have x1_ := below_cell (Below.trans HBR.out (hS_.mono HBR.out.size)) HX_1.out; have x2_ := below_cell (Below.trans HBR.out (hS_.mono HBR.out.size)) HX_2.out; have x3_ := below_cell (Below.trans HBR.out (hS_.mono HBR.out.size)) HX_3.out; have x4_ := below_cell (Below.trans HBR.out (hS_.mono HBR.out.size)) HX_4.out; have x5_ := below_cell (Below.trans HBR.out (hS_.mono HBR.out.size)) HX_5.out; have x6_ := below_cell (Below.trans HBR.out (hS_.mono HBR.out.size)) HX_6.out; have x7_ := below_cell (Below.trans HBR.out (hS_.mono HBR.out.size)) HX_7.out; have x8_ := below_cell (Below.trans HBR.out (hS_.mono HBR.out.size)) HX_8.out; have x9_ := below_cell (Below.trans HBR.out (hS_.mono HBR.out.size)) HX_9.out; have x10_ := below_cell (Below.trans HBR.out (hS_.mono HBR.out.size)) HX_10.out; have x11_ := below_cell (Below.trans HBR.out (hS_.mono HBR.out.size)) HX_11.out; go_simp <;> with_reducible rfl)
        refine doD (i := 12) (ls2 := #[true, true, true, true, true, true, true, true, true, true, true, true, true, false, false, false]) (by kernel_rfl) rfl (by kernel_rfl) (by kernel_rfl) (fun K hK => ?_)
        go_simp
        go_wp2_with (first | (go_at_call 61; go_loud ((with_reducible refine (HAX.out _).mono ?_); rintro e w6 ⟨rfl, hb6⟩)))
        refine hK.out _ _ ?_ (fun hS_ => ?_)
        · show Below WX.heap.size WX _
          exact hS.trans (hb6.mono hS.size)
        clear hK K hS hb6
        have hS : Below WX.heap.size WX _ := hS_
        clear hS_
        refine takeE 13 (some 62) #[true, true, true, true, true, true, true, true, true, true, true, true, true, true, false, false] hS ?_
        refine takeE 14 (some 63) #[true, true, true, true, true, true, true, true, true, true, true, true, true, true, true, false] hS ?_
        refine takeE 15 (some 11) #[true, true, true, true, true, true, true, true, true, true, true, true, true, true, true, true] hS ?_
        refine wpAnyH_done (by kernel_rfl) ?_ _
        try go_simp
        have HSS := Lib.hid hS
        clear hS
        go_wp2
        go_meet
        case rel => exact ⟨rfl, HBR.out.trans (HSS.out.mono HBR.out.size)⟩
    case rest =>
      obtain ⟨rfl, hbr2⟩ := hcut
      obtain ⟨WY, hWY⟩ : ∃ W, W = wc := ⟨_, rfl⟩
      subst hWY
      clear HBR
      have HBR := Lib.hid hbr2
      have hx4 := below_cell hbr2 HX4.out
      have hcl := clone2_calls A c s.f4 WY (by have h := Kd.C_below HRA.out (HAI.out.bw.trans (hbr2.mono HAI.out.bw.size)); rw [← HN.out] at h; exact h) (by have := HN.out; omega) (by have := HN.out; omega)
      rw [HN.out] at hcl
      have HCL := Lib.hid hcl
      clear hcl hbr2
      go_upto_region 11 with (first | (go_at_call 42; go_loud ((with_reducible refine HCL.out.mono ?_); rintro e w9 ⟨v9, rfl, hR9, hb9⟩; obtain ⟨A12, c12, hv9, hc12, _⟩ := Kd.R_reads hR9; rw [HN.out] at hv9; subst hv9; have HR9 := Lib.hid hR9; have HB9 := Lib.hid hb9; clear hR9 hb9)))
      have hbi9 : Below WI.heap.size WI w9 := HBR.out.trans (HB9.out.mono HBR.out.size)
      have HA9 := Lib.hid (ApW.mk (blk_below HAI.out.b0 hbi9) (blk_below HAI.out.b1 hbi9) (blk_below HAI.out.b2 hbi9) (HAI.out.bw.trans (hbi9.mono HAI.out.bw.size)) : ApW w w9 s r A n c)
      have hwyl : w.heap.size + 2 < WY.heap.size ∧ ga < WY.heap.size := by
        have h1 := lt_of_block (blk_below HAI.out.b2 HBR.out)
        have h2 := lt_of_block (blk_below HAT.out HBR.out)
        omega
      have HWYL := Lib.hid hwyl
      have HAT9 := Lib.hid (blk_below HAT.out hbi9)
      have HRB9 := Lib.hid (R_base HR9.out (show w.heap.size ≤ WY.heap.size by omega) (Nat.le_refl _))
      clear hbi9 hwyl hx4
      obtain rfl : is = true := by rw [← HIS.out]; exact HISQ.out
      have hisn : i < s.f4.length := by
        have h := HIS.out
        unfold isP at h
        simp only [Bool.and_eq_true, decide_eq_true_eq] at h
        exact h.1
      have hln12 : (s.f4.take i ++ s.f4.drop (i + 1)).length = n - 1 := by rw [List.length_append, List.length_take, List.length_drop, HN.out]; have := HN.out; omega
      have HL12 := Lib.hid hln12
      have hdel := deleteC_calls WY.heap.size w9 w9 (fun k => WY.heap.size ≤ k) A12 c12 s.f4 i hisn (by have := HN.out; omega) (by rw [HN.out]; exact R_base HR9.out (Nat.le_refl _) (Nat.le_refl _)) (Below.refl _ _)
      rw [HN.out] at hdel
      have HDEL := Lib.hid hdel
      have hwi : IntKind.i64.wrap ((i : Int) + 1) = (i : Int) + 1 := by rw [IntKind.wrap_i64]; omega
      clear hdel hln12 hisn
      go_upto_region 26 with (first | (go_at_call 72; go_loud ((with_reducible refine HDEL.out.mono ?_); rintro e WT ⟨v12, rfl, hR12, hbt⟩; obtain ⟨A13, c13, hv12, _, _⟩ := Kd.R_reads hR12; rw [HL12.out] at hv12; subst hv12; have HR12 := Lib.hid hR12; have HBT0 := Lib.hid hbt; clear hR12 hbt)))
      have hwl := HWYL.out
      have HB0 := Lib.hid ((HBT0.out.block w.heap.size (by omega)).trans HA9.out.b0)
      have HB2 := Lib.hid ((HBT0.out.block (w.heap.size + 1 + 1) (by omega)).trans HA9.out.b2)
      have HBT := Lib.hid (HA9.out.bw.trans (HBT0.out.mono (show w.heap.size ≤ WY.heap.size by omega)))
      have HRT := Lib.hid (R_base HR12.out (show w.heap.size ≤ WY.heap.size by omega) (Nat.le_refl _))
      clear HBT0 HR12 hwl
      have z0 : WT.cell? ⟨w.heap.size, 0, none⟩ = some (.int .i64 s.f0) := (blk_cell HB0.out 0).trans rfl
      have z1 : WT.cell? ⟨w.heap.size, 1, none⟩ = some (.int .i64 s.f1) := (blk_cell HB0.out 1).trans rfl
      have z2 : WT.cell? ⟨w.heap.size, 2, none⟩ = some (.int .i64 s.f2) := (blk_cell HB0.out 2).trans rfl
      have z3 : WT.cell? ⟨w.heap.size, 3, none⟩ = some (.int .i64 s.f3) := (blk_cell HB0.out 3).trans rfl
      have z4 : WT.cell? ⟨w.heap.size, 4, none⟩ = some (.slice A n c) := (blk_cell HB0.out 4).trans rfl
      have y0 : WT.cell? ⟨w.heap.size + 1 + 1, 0, none⟩ = some (.int .i64 0) := (blk_cell HB2.out 0).trans rfl
      have y1 : WT.cell? ⟨w.heap.size + 1 + 1, 1, none⟩ = some (.int .i64 0) := (blk_cell HB2.out 1).trans rfl
      have y2 : WT.cell? ⟨w.heap.size + 1 + 1, 2, none⟩ = some (.int .i64 0) := (blk_cell HB2.out 2).trans rfl
      have y3 : WT.cell? ⟨w.heap.size + 1 + 1, 3, none⟩ = some (.int .i64 0) := (blk_cell HB2.out 3).trans rfl
      have y4 : WT.cell? ⟨w.heap.size + 1 + 1, 4, none⟩ = some (.slice none 0 0) := (blk_cell HB2.out 4).trans rfl
      have f4 := blk_frozen HB0.out 4
      have e0 : WT.frozen? ⟨w.heap.size + 1 + 1, 0, none⟩ = false := blk_frozen HB2.out 0
      have e1 : WT.frozen? ⟨w.heap.size + 1 + 1, 1, none⟩ = false := blk_frozen HB2.out 1
      have e2 : WT.frozen? ⟨w.heap.size + 1 + 1, 2, none⟩ = false := blk_frozen HB2.out 2
      have e3 : WT.frozen? ⟨w.heap.size + 1 + 1, 3, none⟩ = false := blk_frozen HB2.out 3
      have e4 : WT.frozen? ⟨w.heap.size + 1 + 1, 4, none⟩ = false := blk_frozen HB2.out 4
      go_wp2
      have hb2 : (WT.setCell ⟨w.heap.size, 4, none⟩ (.slice A13 (n - 1) c13)).heap[w.heap.size + 1 + 1]? = some (.cells #[.int .i64 0, .int .i64 0, .int .i64 0, .int .i64 0, .slice none 0 0] 28 (0, 0)) := (heap_setCell_other _ _ _ _ (by show w.heap.size + 1 + 1 ≠ w.heap.size; omega)).trans HB2.out
      refine bodyPost_ret (results_ct' rfl _ _ (w.heap.size + 1 + 1) 28 #[.int .i64 s.f0, .int .i64 s.f1, .int .i64 s.f2, .int .i64 s.f3, .slice A13 (n - 1) c13] (0, 0) _ rfl (put5_heap hb2 (.int .i64 s.f0) (.int .i64 s.f1) (.int .i64 s.f2) (.int .i64 s.f3) (.slice A13 (n - 1) c13)) Try.underlying28 rfl (by kernel_rfl)) rfl ?_
      refine ⟨A13, c13, ?_, ?_, put5_below (HBT.out.setCell (p := ⟨w.heap.size, 4, none⟩) (Nat.le_refl _) _) (by omega) (.int .i64 s.f0) (.int .i64 s.f1) (.int .i64 s.f2) (.int .i64 s.f3) (.slice A13 (n - 1) c13)⟩
      · show _ = Ending.returned (.tuple #[.agg #[.int .i64 s.f0, .int .i64 s.f1, .int .i64 s.f2, .int .i64 s.f3, .slice A13 (s.f4.take i ++ s.f4.drop (i + 1)).length c13], .int .i64 0])
        rw [HL12.out]
        rfl
      · show Kd.R k46 46 _ _ _ (.slice A13 (s.f4.take i ++ s.f4.drop (i + 1)).length c13) (s.f4.take i ++ s.f4.drop (i + 1))
        rw [HL12.out]
        refine R_ok (R_other HRT.out (fun k hk => ?_)) (fun _ _ => trivial)
        have hk' : WY.heap.size ≤ k := hk
        have hwy := HWYL.out
        exact (put5_other (by omega) (.int .i64 s.f0) (.int .i64 s.f1) (.int .i64 s.f2) (.int .i64 s.f3) (.slice A13 (n - 1) c13)).trans (heap_setCell_other _ _ _ _ (by show k ≠ w.heap.size; omega))
end Go.Proofs.Ytgipepjpkmlmaaa.P
namespace Go.Proofs.Ytgipepjpkmlmaaa.P
open Go.RowKit Go.Proofs.YtgipepjpkmlmaaaW.PrintWords Go.Proofs.YtgipepjpkmlmaaaW.PrintLast Go.Proofs.YtgipepjpkmlmaaaW.PrintMore
set_option linter.unusedVariables false
set_option linter.unusedSimpArgs false
theorem step_head (s b : S28) (hb : stateR b) (hl : s.f4.length ≤ 1000) : Step s (headR b) ⟨b.f0, b.f1, b.f2, b.f3, s.f4⟩ := by
  intro A c w hr hc
  obtain ⟨i, hi⟩ := place_at s.f4 ⟨0, 0, z44⟩
  have hR := headL_R hb
  have h0 : tkL (headR b).f2 11 0 0 = (0, numsT [b.f0, b.f1, b.f2, b.f3], 0) := take_nums 0 [b.f0, b.f1, b.f2, b.f3] (by omega) (by omega)
  have hv : ∀ v ∈ [b.f0, b.f1, b.f2, b.f3], -9223372036854775808 ≤ v ∧ v ≤ 9223372036854775807 := fun v h => hR v (List.mem_cons_of_mem _ h)
  exact apply0_calls s (headR b) (numsT [b.f0, b.f1, b.f2, b.f3]) i b.f0 b.f1 b.f2 b.f3 (takeAll_nums [b.f0, b.f1, b.f2, b.f3] hv) rfl rfl A c w hr hc hl h0 (Nat.le_trans (numsT_size _ hR) (by show 10 * 5 ≤ _; omega)) hi
theorem told_take (c : S46) (hc : cellR c) (hok : aggOk c.f2 = true) : tkL (tellH c).f2 11 0 0 = (1, numsT (aggL c.f2), 0) ∧ (tellH c).f2.size ≤ 1000000 := by
  constructor
  · show tkL (numT 1 ++ encT c.f2) 11 0 0 = _
    have e : encT c.f2 = numsT (aggL c.f2) := if_pos hok
    rw [e]
    exact take_num 1 (by omega) (by omega) _
  · show (numT 1 ++ encT c.f2).size ≤ _
    rw [ByteArray.size_append]
    have h1 := numT_size 1 (by omega) (by omega)
    have h2 := encT_size c.f2 hc.ag
    omega
theorem step_new (s : S28) (c : S46) (hc : cellR c) (hok : aggOk c.f2 = true) (hl : s.f4.length ≤ 1000) (i : Nat) (hi : placeOk s.f4 ⟨c.f0, c.f1, z44⟩ i) (his : isP s.f4 ⟨c.f0, c.f1, z44⟩ i = false) :
    Step s (tellH c) ⟨s.f0, s.f1, s.f2, s.f3, s.f4.take i ++ c :: s.f4.drop i⟩ := by
  intro A k w hr hk
  have ht := told_take c hc hok
  exact apply1_calls s (tellH c) (numsT (aggL c.f2)) i c.f2 hc.ag hok rfl his A k w hr hk hl ht.1 ht.2 hi
def awA : S46 := ⟨1, 0, ⟨1, 5, 5, 5, ⟨0, 1, 0, 0⟩, 0, 1⟩⟩
def awS : S28 := ⟨3, 0, 0, 1, [awA]⟩
theorem awA_R : cellR awA := by
  unfold awA
  constructor
  · show i64R 1; unfold i64R; omega
  · show i64R 0; unfold i64R; omega
  · constructor <;> (simp only; unfold i64R; omega)
theorem awS_R : stateR awS := by
  unfold awS
  constructor
  · show i64R 3; unfold i64R; omega
  · show i64R 0; unfold i64R; omega
  · show i64R 0; unfold i64R; omega
  · show i64R 1; unfold i64R; omega
  · intro c hc
    obtain rfl : c = awA := by simpa using hc
    exact awA_R
theorem s0_R : stateR s0 := by
  unfold s0
  constructor
  · show i64R (-1); unfold i64R; omega
  · show i64R 0; unfold i64R; omega
  · show i64R 0; unfold i64R; omega
  · show i64R 0; unfold i64R; omega
  · intro c hc
    cases hc
theorem awA_ok : aggOk awA.f2 = true := by decide +kernel
theorem aw_diff : diffP s0 awS = [headR awS, tellH awA] := by
  unfold diffP headP
  rw [if_neg (by decide +kernel)]
  show [headR awS] ++ walkP [] [awA] = _
  rw [walk_nc, walk_nn]
  rfl
theorem aw_same : diffP awS awS = [] := by
  unfold diffP headP
  rw [if_pos (by decide +kernel)]
  show [] ++ walkP [awA] [awA] = _
  rw [walk_e (by decide +kernel) (by decide +kernel) (by decide +kernel), walk_nn]
  rfl
theorem aw_steps : Steps s0 [headR awS, tellH awA] awS := by
  refine ⟨⟨3, 0, 0, 1, []⟩, step_head s0 awS awS_R (Nat.zero_le _), awS, ?_, rfl⟩
  exact step_new ⟨3, 0, 0, 1, []⟩ awA awA_R awA_ok (Nat.zero_le _) 0 ⟨Nat.le_refl _, fun m h => absurd h (Nat.not_lt_zero m), fun h => absurd h (Nat.lt_irrefl 0)⟩ rfl
theorem aw_check : checkP ⟨10, 10, 0⟩ awS = true := by decide +kernel
theorem aw_t0 : (headR awS).f2 = ⟨#[0, 6, 0, 0, 2]⟩ := by decide +kernel
theorem aw_t1 : (tellH awA).f2.size = 11 := by decide +kernel
set_option maxHeartbeats 16000000 in
set_option maxRecDepth 100000 in
theorem awake17_calls (w : World) : Calls Try.prog 31 #[] w fun e w' => e = .returned (.bool true) ∧ Below w.heap.size w w' := by
  have hd1 : ∀ (A : Option Addr) (w : World), Kd.C k46 w A 1 [awA] → Calls Try.prog 33 #[.agg #[.int .i64 (-1), .int .i64 0, .int .i64 0, .int .i64 0, .slice none 0 0], .agg #[.int .i64 3, .int .i64 0, .int .i64 0, .int .i64 1, .slice A 1 1]] w fun e w' => ∃ v, e = .returned v ∧ Kd.R k50 50 w' w.heap.size (fun _ => True) v [headR awS, tellH awA] ∧ Below w.heap.size w w' := by
    intro A w h
    have h1 := diff_calls s0 awS s0_R awS_R none A 0 1 w ⟨rfl, Nat.zero_le _, fun q => absurd q (Nat.lt_irrefl 0)⟩ (Nat.le_refl _) h (Nat.le_refl _) (Nat.zero_le _) (show 1 ≤ 400 by omega)
    rw [aw_diff] at h1
    exact h1
  have hd2 : ∀ (A : Option Addr) (w : World), Kd.C k46 w A 1 [awA] → Calls Try.prog 33 #[.agg #[.int .i64 3, .int .i64 0, .int .i64 0, .int .i64 1, .slice A 1 1], .agg #[.int .i64 3, .int .i64 0, .int .i64 0, .int .i64 1, .slice A 1 1]] w fun e w' => ∃ v, e = .returned v ∧ Kd.R k50 50 w' w.heap.size (fun _ => True) v [] ∧ Below w.heap.size w w' := by
    intro A w h
    have h1 := diff_calls awS awS awS_R awS_R A A 1 1 w h (Nat.le_refl _) h (Nat.le_refl _) (show 1 ≤ 400 by omega) (show 1 ≤ 400 by omega)
    rw [aw_same] at h1
    exact h1
  have hre : ∀ (A : Option Addr) (c : Nat) (w : World), Kd.C k50 w A 2 [headR awS, tellH awA] → 2 ≤ c → Calls Try.prog 37 #[.agg #[.int .i64 10, .int .i64 10, .int .i64 0], .slice A 2 c] w fun e w' => ∃ (A' : Option Addr) (c' : Nat), e = .returned (.tuple #[.agg #[.int .i64 3, .int .i64 0, .int .i64 0, .int .i64 1, .slice A' 1 c'], .int .i64 0]) ∧ Kd.R k46 46 w' w.heap.size (fun _ => True) (.slice A' 1 c') [awA] ∧ Below w.heap.size w w' := by
    intro A c w h hc
    exact restore_calls ⟨10, 10, 0⟩ [headR awS, tellH awA] awS aw_steps aw_check (show 1 ≤ 1000 by omega) A c w h hc (show 2 ≤ 1000000 by omega)
  have hsm : ∀ (A0 A1 : Option Addr) (c0 c1 : Nat) (w : World), Kd.C k46 w A0 1 [awA] → 1 ≤ c0 → Kd.C k46 w A1 1 [awA] → 1 ≤ c1 → Calls Try.prog 18 #[.agg #[.int .i64 3, .int .i64 0, .int .i64 0, .int .i64 1, .slice A0 1 c0], .agg #[.int .i64 3, .int .i64 0, .int .i64 0, .int .i64 1, .slice A1 1 c1]] w fun e w' => e = .returned (.bool true) ∧ Below w.heap.size w w' := by
    intro A0 A1 c0 c1 w h0 k0 h1 k1
    exact headgateref16_Same.calls _ 3 0 0 1 A0 c0 [awA] 3 0 0 1 A1 c1 [awA] true w h0 k0 h1 k1 (same_state awS (show 1 ≤ 1000000 by omega))
  have HD1 := Lib.hid hd1
  have HD2 := Lib.hid hd2
  have HRE := Lib.hid hre
  have HSM := Lib.hid hsm
  obtain ⟨rh, hrh⟩ : ∃ r, headR awS = r := ⟨_, rfl⟩
  obtain ⟨rt, hrt⟩ : ∃ r, tellH awA = r := ⟨_, rfl⟩
  have e0 : rh.f2 = ⟨#[0, 6, 0, 0, 2]⟩ := by rw [← hrh]; exact aw_t0
  have e1 : rt.f0 = 1 := by rw [← hrt]; rfl
  have e2 : rt.f2.size = 11 := by rw [← hrt]; exact aw_t1
  rw [hrh, hrt] at HD1 HRE
  obtain ⟨W1, hW1⟩ : ∃ W, W = (w.alloc (.cells #[.int .i64 1, .int .i64 0, .int .i64 1, .int .i64 5, .int .i64 5, .int .i64 5, .int .i64 0, .int .i64 1, .int .i64 0, .int .i64 0, .int .i64 0, .int .i64 1] 46)).alloc (.cells #[.int .i64 3, .int .i64 0, .int .i64 0, .int .i64 1, .slice (some ⟨w.heap.size, 0, none⟩) 1 1] 28) := ⟨_, rfl⟩
  have ha : W1.heap[w.heap.size]? = some (.cells #[.int .i64 1, .int .i64 0, .int .i64 1, .int .i64 5, .int .i64 5, .int .i64 5, .int .i64 0, .int .i64 1, .int .i64 0, .int .i64 0, .int .i64 0, .int .i64 1] 46 (0, 0)) := by
    rw [hW1, Below.heap_alloc _ _ _ (by simp)]
    exact heap_alloc_new _ _
  have hs : W1.heap[w.heap.size + 1]? = some (.cells #[.int .i64 3, .int .i64 0, .int .i64 0, .int .i64 1, .slice (some ⟨w.heap.size, 0, none⟩) 1 1] 28 (0, 0)) := by
    rw [hW1]
    have := heap_alloc_new (w.alloc (.cells #[.int .i64 1, .int .i64 0, .int .i64 1, .int .i64 5, .int .i64 5, .int .i64 5, .int .i64 0, .int .i64 1, .int .i64 0, .int .i64 0, .int .i64 0, .int .i64 1] 46)) (.cells #[.int .i64 3, .int .i64 0, .int .i64 0, .int .i64 1, .slice (some ⟨w.heap.size, 0, none⟩) 1 1] 28)
    simpa using this
  have hbw : Below w.heap.size w W1 := by rw [hW1]; exact below_alloc (below_alloc (Below.refl _ _) _) _
  have hca : Kd.C k46 W1 (some ⟨w.heap.size, 0, none⟩) 1 [awA] := one_C ha
  have HB := Lib.hid hbw
  have HS := Lib.hid hs
  have HCA := Lib.hid hca
  have HW1 := Lib.hid hW1
  have z0 : W1.cell? ⟨w.heap.size + 1, 0, none⟩ = some (.int .i64 3) := (blk_cell hs 0).trans rfl
  have z1 : W1.cell? ⟨w.heap.size + 1, 1, none⟩ = some (.int .i64 0) := (blk_cell hs 1).trans rfl
  have z2 : W1.cell? ⟨w.heap.size + 1, 2, none⟩ = some (.int .i64 0) := (blk_cell hs 2).trans rfl
  have z3 : W1.cell? ⟨w.heap.size + 1, 3, none⟩ = some (.int .i64 1) := (blk_cell hs 3).trans rfl
  have z4 : W1.cell? ⟨w.heap.size + 1, 4, none⟩ = some (.slice (some ⟨w.heap.size, 0, none⟩) 1 1) := (blk_cell hs 4).trans rfl
  clear hW1 ha hs hbw hca hd1 hd2 hre hsm hrh hrt
  go_enter Try.func31, Try.ntmps31
  go_upto_region 2 with fail
  rw [← HW1.out]
  go_upto_region 3 with (first | (go_at_call 33; go_loud ((with_reducible refine (HD1.out _ _ HCA.out).mono ?_); rintro e w3 ⟨v3, rfl, hR3, hb3⟩; obtain ⟨A3, c3, rfl, hc3, hC3⟩ := Kd.R_reads hR3; have HC3 := Lib.hid hC3; have HB3 := Lib.hid hb3; clear hR3 hb3 hC3)))
  go_upto_region 4 with (first | (go_at_call 37; go_loud ((with_reducible refine (HRE.out _ _ _ HC3.out hc3).mono ?_); rintro e w4 ⟨A9, c9, rfl, hR9, hb4⟩; have HR9 := Lib.hid hR9; have HB4 := Lib.hid hb4; clear hR9 hb4)))
  obtain ⟨WD, hWD⟩ : ∃ W, W = w4.alloc (.cells #[.int .i64 3, .int .i64 0, .int .i64 0, .int .i64 1, .slice A9 1 c9] 28) := ⟨_, rfl⟩
  have hbd : Below w4.heap.size w4 WD := by rw [hWD]; exact (Below.refl _ _).alloc (Nat.le_refl _) _
  have hbd3 : Below w3.heap.size w3 WD := HB4.out.trans (hbd.mono HB4.out.size)
  have hbd1 : Below W1.heap.size W1 WD := HB3.out.trans (hbd3.mono HB3.out.size)
  have htd : WD.heap[w4.heap.size]? = some (.cells #[.int .i64 3, .int .i64 0, .int .i64 0, .int .i64 1, .slice A9 1 c9] 28 (0, 0)) := by rw [hWD]; exact heap_alloc_new _ _
  have hsd := blk_below HS.out hbd1
  have hc3d := Kd.C_below HC3.out hbd3
  have HCD := Lib.hid (Kd.C_below HCA.out hbd1)
  have HRD := Lib.hid (Kd.R_below HR9.out hbd)
  have hc9 : 1 ≤ c9 := (Kd.R_reads' HR9.out).2.1
  rw [← hWD]
  clear z0 z1 z2 z3 z4
  have z0 : WD.cell? ⟨w.heap.size + 1, 0, none⟩ = some (.int .i64 3) := (blk_cell hsd 0).trans rfl
  have z1 : WD.cell? ⟨w.heap.size + 1, 1, none⟩ = some (.int .i64 0) := (blk_cell hsd 1).trans rfl
  have z2 : WD.cell? ⟨w.heap.size + 1, 2, none⟩ = some (.int .i64 0) := (blk_cell hsd 2).trans rfl
  have z3 : WD.cell? ⟨w.heap.size + 1, 3, none⟩ = some (.int .i64 1) := (blk_cell hsd 3).trans rfl
  have z4 : WD.cell? ⟨w.heap.size + 1, 4, none⟩ = some (.slice (some ⟨w.heap.size, 0, none⟩) 1 1) := (blk_cell hsd 4).trans rfl
  obtain ⟨adl, had, x0, x1, x2⟩ := at_T50 hc3d 0 (by omega) (show (0 : Int) < ((2 : Nat) : Int) by decide)
  obtain ⟨adl', had', y0, y1, y2⟩ := at_T50 hc3d 1 (by omega) (show (1 : Int) < ((2 : Nat) : Int) by decide)
  rw [had] at had'
  injection had' with had'
  subst had'
  subst had
  rw [show rd_T50 [rh, rt] 0 = rh from rfl] at x0 x1 x2
  rw [show rd_T50 [rh, rt] 1 = rt from rfl] at y0 y1 y2
  rw [e0] at x2
  rw [e1] at y0
  simp only [Int.toNat_zero, Nat.zero_mul, Addr.add_zero'] at x2
  rw [show adl.add (Int.toNat 1 * 3) = ⟨adl.block, adl.off + 3, none⟩ from rfl] at y0 y2
  obtain ⟨T1, hT1⟩ : ∃ T, rt.f2 = T := ⟨_, rfl⟩
  rw [hT1] at y2 e2
  have HTD := Lib.hid htd
  have HSD := Lib.hid hsd
  have HBD := Lib.hid (HB.out.trans (hbd1.mono HB.out.size))
  clear hWD hbd hbd3 hbd1 htd hsd hc3d hT1 x0 x1 y1 e0 e1
  go_wp2_with (first | (go_at_call 33; go_loud ((with_reducible refine (HD2.out _ _ HCD.out).mono ?_); rintro e w7 ⟨v7, rfl, hR7, hb7⟩; obtain ⟨A7, c7, rfl, hc7, _⟩ := Kd.R_reads hR7; have hs7 := blk_below HSD.out hb7; have ht7 := blk_below HTD.out hb7; have s0 : w7.cell? ⟨w.heap.size + 1, 0, none⟩ = some (.int .i64 3) := (blk_cell hs7 0).trans rfl; have s1 : w7.cell? ⟨w.heap.size + 1, 1, none⟩ = some (.int .i64 0) := (blk_cell hs7 1).trans rfl; have s2 : w7.cell? ⟨w.heap.size + 1, 2, none⟩ = some (.int .i64 0) := (blk_cell hs7 2).trans rfl; have s3 : w7.cell? ⟨w.heap.size + 1, 3, none⟩ = some (.int .i64 1) := (blk_cell hs7 3).trans rfl; have s4 : w7.cell? ⟨w.heap.size + 1, 4, none⟩ = some (.slice (some ⟨w.heap.size, 0, none⟩) 1 1) := (blk_cell hs7 4).trans rfl; have t0 : w7.cell? ⟨w4.heap.size, 0, none⟩ = some (.int .i64 3) := (blk_cell ht7 0).trans rfl; have t1 : w7.cell? ⟨w4.heap.size, 1, none⟩ = some (.int .i64 0) := (blk_cell ht7 1).trans rfl; have t2 : w7.cell? ⟨w4.heap.size, 2, none⟩ = some (.int .i64 0) := (blk_cell ht7 2).trans rfl; have t3 : w7.cell? ⟨w4.heap.size, 3, none⟩ = some (.int .i64 1) := (blk_cell ht7 3).trans rfl; have t4 : w7.cell? ⟨w4.heap.size, 4, none⟩ = some (.slice A9 1 c9) := (blk_cell ht7 4).trans rfl; have HC7 := Lib.hid (Kd.C_below HCD.out hb7); have HT7 := Lib.hid ((Kd.R_reads' (Kd.R_below HRD.out hb7)).2.2); have HB7 := Lib.hid (HBD.out.trans (hb7.mono HBD.out.size)); clear hs7 ht7 hb7 hR7)) | (go_at_call 18; go_loud ((with_reducible refine (HSM.out _ _ _ _ _ HC7.out (Nat.le_refl _) HT7.out hc9).mono ?_); rintro e w8 ⟨rfl, hb8⟩; have HB8 := Lib.hid (HB7.out.trans (hb8.mono HB7.out.size)); clear hb8)))
  go_ret
  exact ⟨rfl, HB8.out⟩
end Go.Proofs.Ytgipepjpkmlmaaa.P
namespace Go.Proofs.Ytgipepjpkmlmaaa.P
open Go.RowKit Go.Proofs.YtgipepjpkmlmaaaW.PrintWords Go.Proofs.YtgipepjpkmlmaaaW.PrintLast Go.Proofs.YtgipepjpkmlmaaaW.PrintMore
set_option linter.unusedVariables false
set_option linter.unusedSimpArgs false
theorem step_gone (s : S28) (c : S46) (hl : s.f4.length ≤ 1000) (i : Nat) (hi : placeOk s.f4 ⟨c.f0, c.f1, z44⟩ i) (his : isP s.f4 ⟨c.f0, c.f1, z44⟩ i = true) :
    Step s (tellG c) ⟨s.f0, s.f1, s.f2, s.f3, s.f4.take i ++ s.f4.drop (i + 1)⟩ := by
  intro A k w hr hk
  have ht : tkL (tellG c).f2 11 0 0 = (2, ⟨#[]⟩, 0) := by
    have h := take_num 2 (by omega) (by omega) ⟨#[]⟩
    rw [show numT 2 ++ ⟨#[]⟩ = numT 2 from ByteArray.append_empty] at h
    exact h
  exact apply2_calls s (tellG c) ⟨#[]⟩ i rfl his A k w hr hk hl ht (Nat.le_trans (numT_size 2 (by omega) (by omega)) (by omega)) hi
theorem step_here (s : S28) (c : S46) (hc : cellR c) (hok : aggOk c.f2 = true) (hl : s.f4.length ≤ 1000) (i : Nat) (hi : placeOk s.f4 ⟨c.f0, c.f1, z44⟩ i) (his : isP s.f4 ⟨c.f0, c.f1, z44⟩ i = true) (h0 : (rd_T46 s.f4 (i : Int)).f0 = c.f0) (h1 : (rd_T46 s.f4 (i : Int)).f1 = c.f1) :
    Step s (tellH c) ⟨s.f0, s.f1, s.f2, s.f3, s.f4.set i c⟩ := by
  intro A k w hr hk
  have ht := told_take c hc hok
  exact apply1r_calls s (tellH c) (numsT (aggL c.f2)) i c.f2 hc.ag hok rfl his h0 h1 A k w hr hk hl ht.1 ht.2 hi
theorem ahead_iff (x y : S46) : aheadB x y = true ↔ x.f1 < y.f1 ∨ (x.f1 = y.f1 ∧ x.f0 < y.f0) := by
  rw [aheadB_iff]
  rfl
theorem ahead_no (x y : S46) : aheadB x y = false ↔ ¬ (x.f1 < y.f1 ∨ (x.f1 = y.f1 ∧ x.f0 < y.f0)) := by
  rw [← ahead_iff]
  cases aheadB x y <;> simp
/-- A row in order. -/
def ordL (l : List S46) : Prop := l.Pairwise (fun x y => aheadB x y = true)
theorem rd_app (p : List S46) (x : S46) (l : List S46) : rd_T46 (p ++ x :: l) (p.length : Int) = x := by
  rw [rd_get _ _ (by simp)]
  simp
theorem rd_app_l (p l : List S46) (m : Nat) (h : m < p.length) : rd_T46 (p ++ l) (m : Int) ∈ p := by
  rw [rd_get _ _ (by rw [List.length_append]; omega), List.getElem_append_left h]
  exact List.getElem_mem h
theorem place_app (p l : List S46) (t : S46) (h1 : ∀ c ∈ p, aheadB c t = true) (h2 : ∀ x r, l = x :: r → aheadB x t = false) : placeOk (p ++ l) ⟨t.f0, t.f1, z44⟩ p.length := by
  refine ⟨by rw [List.length_append]; omega, fun m hm => ?_, fun h => ?_⟩
  · exact h1 _ (rd_app_l p l m hm)
  · cases l with
    | nil => simp at h
    | cons x r =>
      rw [rd_app]
      exact h2 x r rfl
theorem isP_nil (p : List S46) (t : S46) : isP (p ++ []) t p.length = false := by
  unfold isP
  rw [List.append_nil, decide_eq_false (by omega)]
  rfl
theorem isP_cons (p : List S46) (x : S46) (l : List S46) (t : S46) : isP (p ++ x :: l) ⟨t.f0, t.f1, z44⟩ p.length = !aheadB t x := by
  unfold isP
  rw [decide_eq_true (by simp), rd_app]
  rfl
/-- What is told between two rows leads from the one to the other. -/
theorem walk_steps (m0 m1 m2 m3 : Int) : ∀ (n : Nat) (la lb p : List S46), la.length + lb.length ≤ n → p.length + la.length + lb.length ≤ 1000 → ordL la → ordL lb → (∀ c ∈ p, ∀ d ∈ la, aheadB c d = true) → (∀ c ∈ p, ∀ d ∈ lb, aheadB c d = true) →
    (∀ c ∈ lb, cellR c ∧ aggOk c.f2 = true) → Steps ⟨m0, m1, m2, m3, p ++ la⟩ (walkP la lb) ⟨m0, m1, m2, m3, p ++ lb⟩ := by
  intro n
  induction n with
  | zero =>
    intro la lb p hn _ _ _ _ _ _
    obtain rfl : la = [] := List.length_eq_zero_iff.1 (by omega)
    obtain rfl : lb = [] := List.length_eq_zero_iff.1 (by omega)
    rw [walk_nn]
    exact rfl
  | succ n ih =>
    intro la lb p hn hl hoa hob hpa hpb hc
    have self : ∀ x : S46, aheadB x x = false := fun x => (ahead_no x x).2 (by omega)
    -- a window that goes
    have gone : ∀ (x : S46) (r : List S46), la = x :: r → Step ⟨m0, m1, m2, m3, p ++ la⟩ (tellG x) ⟨m0, m1, m2, m3, p ++ r⟩ := by
      intro x r e
      have h := step_gone ⟨m0, m1, m2, m3, p ++ la⟩ x (by show (p ++ la).length ≤ _; rw [List.length_append]; omega) p.length
        (place_app p la x (fun c hc => hpa c hc x (by rw [e]; exact List.mem_cons_self)) (fun y q e2 => by rw [e] at e2; injection e2 with e2 _; subst e2; exact self _))
        (by rw [e]; exact (isP_cons p x r x).trans (by rw [self]; rfl))
      have e3 : (p ++ la).take p.length ++ (p ++ la).drop (p.length + 1) = p ++ r := by rw [e]; simp
      rw [← e3]
      exact h
    cases la with
    | nil =>
      cases lb with
      | nil => rw [walk_nn]; exact rfl
      | cons y lb =>
        rw [walk_nc]
        have hy := hc y List.mem_cons_self
        have h := step_new ⟨m0, m1, m2, m3, p ++ []⟩ y hy.1 hy.2 (by show (p ++ []).length ≤ _; rw [List.append_nil]; omega) p.length
          (place_app p [] y (fun c hc => hpb c hc y List.mem_cons_self) (fun x r e => by cases e)) (isP_nil p _)
        refine ⟨⟨m0, m1, m2, m3, (p ++ [y]) ++ []⟩, ?_, ?_⟩
        · have e3 : (p ++ []).take p.length ++ y :: (p ++ []).drop p.length = (p ++ [y]) ++ [] := by simp
          rw [← e3]
          exact h
        · have h2 := ih [] lb (p ++ [y]) (by simp only [List.length_cons, List.length_nil] at *; omega) (by simp only [List.length_append, List.length_cons, List.length_nil] at *; omega) hoa (List.Pairwise.of_cons hob)
            (fun c _ d hd => by cases hd)
            (fun c hcp d hd => by
              rcases List.mem_append.1 hcp with h | h
              · exact hpb c h d (List.mem_cons_of_mem _ hd)
              · obtain rfl := List.mem_singleton.1 h
                exact List.rel_of_pairwise_cons hob hd)
            (fun c h => hc c (List.mem_cons_of_mem _ h))
          rw [List.append_assoc] at h2
          rw [List.append_assoc] at h2
          rw [List.append_assoc]
          exact h2
    | cons x la =>
      cases lb with
      | nil =>
        rw [walk_cn]
        exact ⟨_, gone x la rfl, ih la [] p (by simp only [List.length_cons, List.length_nil] at *; omega) (by simp only [List.length_cons, List.length_nil] at *; omega) (List.Pairwise.of_cons hoa) hob (fun c h d hd => hpa c h d (List.mem_cons_of_mem _ hd)) hpb hc⟩
      | cons y lb =>
        have hy := hc y List.mem_cons_self
        have hyp : ∀ c ∈ p, aheadB c y = true := fun c h => hpb c h y List.mem_cons_self
        have hob2 : ∀ d ∈ lb, aheadB y d = true := fun d hd => List.rel_of_pairwise_cons hob hd
        have hoa2 : ∀ d ∈ la, aheadB x d = true := fun d hd => List.rel_of_pairwise_cons hoa hd
        cases q1 : aheadB x y with
        | true =>
          rw [walk_l q1]
          exact ⟨_, gone x la rfl, ih la (y :: lb) p (by simp only [List.length_cons] at *; omega) (by simp only [List.length_cons] at *; omega) (List.Pairwise.of_cons hoa) hob (fun c h d hd => hpa c h d (List.mem_cons_of_mem _ hd)) hpb hc⟩
        | false =>
          have hpl := place_app p (x :: la) y hyp (fun z r e => by injection e with e _; subst e; exact q1)
          cases q2 : aheadB y x with
          | true =>
            rw [walk_r q1 q2]
            have h := step_new ⟨m0, m1, m2, m3, p ++ x :: la⟩ y hy.1 hy.2 (by show (p ++ x :: la).length ≤ _; simp only [List.length_append, List.length_cons] at *; omega) p.length hpl ((isP_cons p x la y).trans (by rw [q2]; rfl))
            refine ⟨⟨m0, m1, m2, m3, (p ++ [y]) ++ x :: la⟩, ?_, ?_⟩
            · have e3 : (p ++ x :: la).take p.length ++ y :: (p ++ x :: la).drop p.length = (p ++ [y]) ++ x :: la := by simp
              rw [← e3]
              exact h
            · have h2 := ih (x :: la) lb (p ++ [y]) (by simp only [List.length_cons] at *; omega) (by simp only [List.length_append, List.length_cons, List.length_nil] at *; omega) hoa (List.Pairwise.of_cons hob)
                (fun c hcp d hd => by
                  rcases List.mem_append.1 hcp with h | h
                  · exact hpa c h d hd
                  · obtain rfl := List.mem_singleton.1 h
                    rcases List.mem_cons.1 hd with rfl | hd
                    · exact q2
                    · have h1 := (ahead_iff _ _).1 (hoa2 d hd)
                      have h3 := (ahead_iff _ _).1 q2
                      exact (ahead_iff _ _).2 (by omega))
                (fun c hcp d hd => by
                  rcases List.mem_append.1 hcp with h | h
                  · exact hpb c h d (List.mem_cons_of_mem _ hd)
                  · obtain rfl := List.mem_singleton.1 h
                    exact hob2 d hd)
                (fun c h => hc c (List.mem_cons_of_mem _ h))
              have e4 : (p ++ [y]) ++ lb = p ++ y :: lb := by simp
              rw [e4] at h2
              exact h2
          | false =>
            have k1 := (ahead_no _ _).1 q1
            have k2 := (ahead_no _ _).1 q2
            have rec2 : Steps ⟨m0, m1, m2, m3, (p ++ [y]) ++ la⟩ (walkP la lb) ⟨m0, m1, m2, m3, p ++ y :: lb⟩ := by
              have h2 := ih la lb (p ++ [y]) (by simp only [List.length_cons] at *; omega) (by simp only [List.length_append, List.length_cons, List.length_nil] at *; omega) (List.Pairwise.of_cons hoa) (List.Pairwise.of_cons hob)
                (fun c hcp d hd => by
                  rcases List.mem_append.1 hcp with h | h
                  · exact hpa c h d (List.mem_cons_of_mem _ hd)
                  · obtain rfl := List.mem_singleton.1 h
                    have h1 := (ahead_iff _ _).1 (hoa2 d hd)
                    exact (ahead_iff _ _).2 (by omega))
                (fun c hcp d hd => by
                  rcases List.mem_append.1 hcp with h | h
                  · exact hpb c h d (List.mem_cons_of_mem _ hd)
                  · obtain rfl := List.mem_singleton.1 h
                    exact hob2 d hd)
                (fun c h => hc c (List.mem_cons_of_mem _ h))
              have e4 : (p ++ [y]) ++ lb = p ++ y :: lb := by simp
              rw [e4] at h2
              exact h2
            cases q3 : eqC x y with
            | true =>
              rw [walk_e q1 q2 q3]
              obtain rfl := (eqC_iff x y).1 q3
              have e4 : (p ++ [x]) ++ la = p ++ x :: la := by simp
              rw [e4] at rec2
              exact rec2
            | false =>
              rw [walk_c q1 q2 q3]
              have h := step_here ⟨m0, m1, m2, m3, p ++ x :: la⟩ y hy.1 hy.2 (by show (p ++ x :: la).length ≤ _; simp only [List.length_append, List.length_cons] at *; omega) p.length hpl ((isP_cons p x la y).trans (by rw [q2]; rfl)) (by show (rd_T46 (p ++ x :: la) _).f0 = _; rw [rd_app]; omega) (by show (rd_T46 (p ++ x :: la) _).f1 = _; rw [rd_app]; omega)
              refine ⟨⟨m0, m1, m2, m3, (p ++ [y]) ++ la⟩, ?_, rec2⟩
              have e3 : (p ++ x :: la).set p.length y = (p ++ [y]) ++ la := by simp
              rw [← e3]
              exact h
/-- What is told between two states leads from the one to the other. -/
theorem diff_steps (a b : S28) (hb : stateR b) (hoa : ordL a.f4) (hob : ordL b.f4) (hl : a.f4.length + b.f4.length ≤ 1000) (hc : ∀ c ∈ b.f4, aggOk c.f2 = true) : Steps a (diffP a b) b := by
  have h := walk_steps b.f0 b.f1 b.f2 b.f3 (a.f4.length + b.f4.length) a.f4 b.f4 [] (Nat.le_refl _) (by simp only [List.length_nil]; omega) hoa hob (fun c h => by cases h) (fun c h => by cases h) (fun c h => ⟨hb.cs c h, hc c h⟩)
  rw [List.nil_append, List.nil_append] at h
  unfold diffP headP
  cases q : sameN a b with
  | true =>
    rw [if_pos rfl, List.nil_append]
    unfold sameN at q
    simp only [Bool.and_eq_true, beq_iff_eq] at q
    obtain ⟨q0, q1, q2, q3⟩ := q
    rw [← q0, ← q1, ← q2, ← q3] at h
    obtain ⟨b0, b1, b2, b3, bl⟩ := b
    simp only at q0 q1 q2 q3 h ⊢
    rw [← q0, ← q1, ← q2, ← q3]
    exact h
  | false =>
    rw [if_neg (by simp)]
    exact ⟨_, step_head a b hb (by omega), h⟩
end Go.Proofs.Ytgipepjpkmlmaaa.P
namespace Go.Proofs.Ytgipepjpkmlmaaa.P
open Go.RowKit Go.Proofs.YtgipepjpkmlmaaaW.PrintWords Go.Proofs.YtgipepjpkmlmaaaW.PrintLast Go.Proofs.YtgipepjpkmlmaaaW.PrintMore
set_option linter.unusedVariables false
set_option linter.unusedSimpArgs false
/-- The least and the greatest number of a window are machine words. -/
def mmR (a : S44) : Prop := i64R a.f2 ∧ i64R a.f3
theorem mmR_add {a : S44} (h : mmR a) (v : Int) (hv : i64R v) : mmR (addP a v) := by
  obtain ⟨⟨h0, h1⟩, h2, h3⟩ := h
  obtain ⟨v0, v1⟩ := hv
  unfold addP mmR i64R mn mx
  simp only
  constructor <;> (split <;> (try split) <;> omega)
theorem takeS_mm (key v t : Int) (l : List S46) (hs : srt l) (hv : i64R v) (h : ∀ c ∈ l, mmR c.f2) : ∀ c ∈ takeS key v t l, mmR c.f2 := by
  intro c hc
  have hz : mmR z44 := ⟨⟨by decide, by decide⟩, by decide, by decide⟩
  obtain ⟨p1, _⟩ := place l ⟨key, t, z44⟩ hs
  unfold takeS at hc
  simp only at hc
  have hle : bsI l ⟨key, t, z44⟩ ≤ l.length := bsL_le l _ (l.length + 1) 0 l.length (Nat.zero_le _)
  cases hb : bsF l ⟨key, t, z44⟩ with
  | true =>
    rw [hb, if_pos rfl] at hc
    rcases List.mem_or_eq_of_mem_set hc with h1 | rfl
    · exact h c h1
    · have hi := (p1 hb).1
      refine mmR_add ?_ v hv
      rw [rd_get l _ hi]
      exact h _ (List.getElem_mem hi)
  | false =>
    rw [hb, if_neg (by decide)] at hc
    rcases List.mem_or_eq_of_mem_set hc with h1 | rfl
    · rcases List.mem_append.1 h1 with h2 | h2
      · exact h c (List.mem_of_mem_take h2)
      · rcases List.mem_cons.1 h2 with rfl | h3
        · exact hz
        · exact h c (List.mem_of_mem_drop h3)
    · refine mmR_add ?_ v hv
      have hlen : (l.take (bsI l ⟨key, t, z44⟩)).length = bsI l ⟨key, t, z44⟩ := by rw [List.length_take]; omega
      rw [rd_get _ _ (by simp; omega), List.getElem_append_right (by omega)]
      simp only [hlen, Nat.sub_self]
      exact hz
theorem takeN_mm (key v : Int) (hv : i64R v) : ∀ (ts : List Int) (l : List S46), srt l → (∀ c ∈ l, mmR c.f2) → ∀ c ∈ takeN key v ts l, mmR c.f2
  | [], l, _, h => h
  | t :: ts, l, hs, h => takeN_mm key v hv ts (takeS key v t l) (takeS_srt key v t l hs) (takeS_mm key v t l hs hv h)
/-- What a state must be that is told of. -/
structure InvM (g : S23) (s : S28) : Prop where
  r : InvR g s
  mm : ∀ c ∈ s.f4, mmR c.f2
theorem invM_zero {g : S23} (h : chkG g = true) : InvM g s0 := ⟨invR_zero h, fun c hc => by cases hc⟩
theorem invM_feed {g : S23} {s : S28} {r : S50} (h : InvM g s) (hn : s.f3 < 1000000) (he : (feedP g s r).2.2 = 0) : InvM g (feedP g s r).1 := by
  refine ⟨invR_feed h.r hn he, ?_⟩
  unfold feedP
  split
  · split
    · intro c hc; cases hc
    · split
      · rename_i hv
        intro c hc
        have h1 := (List.mem_filter.1 hc).1
        split at h1
        · exact h.mm c h1
        · exact takeN_mm _ _ (valP_range r.f2 hv) _ _ h.r.inv.ord h.mm c h1
      · exact h.mm
  · intro c hc; cases hc
theorem feed_f3 {g : S23} {s : S28} {r : S50} (h : Inv g s) (hn : s.f3 < 1000000) (he : (feedP g s r).2.2 = 0) : (feedP g s r).1.f3 = s.f3 + 1 := by
  have h0 := h.n0
  have e : wrap64 (s.f3 + 1) = s.f3 + 1 := by unfold wrap64; omega
  unfold feedP at he ⊢
  split
  · rename_i h1
    rw [if_pos h1] at he
    split
    · rename_i h2
      rw [if_pos h2] at he
      cases he
    · split
      · exact e
      · exact e
  · rename_i h1
    rw [if_neg h1] at he
    cases he
theorem invM_run (g : S23) : ∀ (l : List S50) (s : S28) (all : List S46), InvM g s → s.f3 + l.length ≤ 1000000 → (runL g l s all).2.2 = 0 → InvM g (runL g l s all).1 ∧ (runL g l s all).1.f3 = s.f3 + l.length
  | [], s, all, h, _, _ => ⟨h, by simp [runL]⟩
  | r :: rs, s, all, h, hn, he => by
    rw [List.length_cons] at hn
    rw [runL] at he ⊢
    by_cases h0 : (feedP g s r).2.2 = 0
    · rw [if_pos h0] at he ⊢
      have hf := feed_f3 h.r.inv (by omega) h0
      have h2 := invM_run g rs (feedP g s r).1 (all ++ (feedP g s r).2.1) (invM_feed h (by omega) h0) (by omega) he
      refine ⟨h2.1, ?_⟩
      rw [h2.2, hf, List.length_cons]
      omega
    · rw [if_neg h0] at he
      exact absurd he h0
theorem srt_ord {l : List S46} (h : srt l) : ordL l := by
  refine List.Pairwise.imp ?_ ((srt_iff l).1 h)
  intro x y hxy
  exact (ahead_iff x y).2 (by unfold ltC at hxy; exact hxy)
theorem InvM.ord {g : S23} {s : S28} (h : InvM g s) : ordL s.f4 := srt_ord h.r.inv.ord
theorem InvM.agg {g : S23} {s : S28} (h : InvM g s) : ∀ c ∈ s.f4, aggOk c.f2 = true := fun c hc => aggOk_of (h.r.inv.each c hc).agg (h.r.inv.each c hc).one
theorem InvM.state {g : S23} {s : S28} (h : InvM g s) : stateR s := by
  obtain ⟨⟨⟨_, n0, n1, l0, b0, lb, mk, _, _, each, _⟩, agg⟩, mm⟩ := h
  refine ⟨⟨?_, ?_⟩, ⟨?_, ?_⟩, ⟨?_, ?_⟩, ⟨?_, ?_⟩, fun c hc => ?_⟩
  any_goals omega
  have h1 := each c hc
  have h2 := agg c hc
  have h3 := mm c hc
  have k0 := h1.k0; have k1 := h1.k1; have t0 := h1.s0; have t1 := h1.s1
  have q0 := h2.h 0; have q1 := h2.h 1; have q2 := h2.h 2; have q3 := h2.h 3
  exact ⟨⟨by omega, by omega⟩, ⟨by omega, by omega⟩, ⟨⟨h2.c0, h2.c1⟩, ⟨h2.s0, h2.s1⟩, h3.1, h3.2, q0, q1, q2, q3, ⟨h2.r0, h2.r1⟩, ⟨h2.i0, h2.i1⟩⟩⟩
theorem steps_app : ∀ (l l' : List S50) (a b c : S28), Steps a l b → Steps b l' c → Steps a (l ++ l') c
  | [], l', a, b, c, h, h2 => by
    have e : a = b := h
    subst e
    exact h2
  | r :: l, l', a, b, c, h, h2 => by
    obtain ⟨t, h3, h4⟩ := h
    exact ⟨t, h3, steps_app l l' t b c h4 h2⟩
/-- What the reference's Run comes to of a state that may be, or of any grid. -/
def runG (g : S23) (s : S28) (l : List S50) : S28 × List S46 × Int := if chkG g = true then runL g l s [] else (z28, [], 1)
/-- The states of the law's loop. -/
def goodQ (g : S23) (s : S28) : Prop := (chkG g = true → InvM g s) ∧ (chkG g = false → s = s0)
theorem goodQ_run {g : S23} {s : S28} {l : List S50} (h : goodQ g s) (hn : s.f3 + l.length ≤ 1000000) (he : (runG g s l).2.2 = 0) : chkG g = true ∧ InvM g s ∧ InvM g (runG g s l).1 ∧ (runG g s l).1.f3 = s.f3 + l.length := by
  cases hg : chkG g with
  | false =>
    unfold runG at he
    rw [hg, if_neg Bool.false_ne_true] at he
    cases he
  | true =>
    have hi := h.1 hg
    unfold runG at he ⊢
    rw [if_pos hg] at he ⊢
    exact ⟨rfl, hi, invM_run g l s [] hi hn he⟩
theorem runG_calls (g : S23) (l : List S50) (s : S28) (h : goodQ g s) (hn : s.f3 + l.length ≤ 1000000) (A B : Option Addr) (c cl : Nat) (w : World) (hz : chkG g = false → A = none ∧ c = 0) (hr : k46.C w A s.f4.length s.f4) (hc : s.f4.length ≤ c)
    (hB : k50.C w B l.length l) (hcl : l.length ≤ cl) (hll : l.length ≤ 1000) (hown : ∀ k, (Value.slice A s.f4.length c).ownBlock = some k → k < w.heap.size) :
    Calls Try.prog 17 #[gridV g, .agg #[.int .i64 s.f0, .int .i64 s.f1, .int .i64 s.f2, .int .i64 s.f3, .slice A s.f4.length c], .slice B l.length cl] w (RunS w A c s.f4 (runG g s l)) := by
  unfold runG
  cases hg : chkG g with
  | false =>
    obtain ⟨rfl, rfl⟩ := hz hg
    obtain rfl := h.2 hg
    rw [if_neg Bool.false_ne_true]
    exact runS_no g hg B l.length cl w
  | true =>
    rw [if_pos rfl]
    exact runS_calls g l s (h.1 hg).r hn A B c cl w hr hc hB hcl hll hown
theorem diff_steps2 {g : S23} {a b : S28} (ha : InvM g a) (hb : InvM g b) : Steps a (diffP a b) b :=
  diff_steps a b hb.state ha.ord hb.ord (by have := ha.r.inv.len; have := hb.r.inv.len; omega) hb.agg
end Go.Proofs.Ytgipepjpkmlmaaa.P
