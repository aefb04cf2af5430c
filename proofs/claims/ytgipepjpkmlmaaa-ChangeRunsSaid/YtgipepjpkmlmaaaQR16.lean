import Derived.Test.YtgipepjpkmlmaaaQR1
import Derived.Test.YtgipepjpkmlmaaaQR2
import Derived.Test.YtgipepjpkmlmaaaQR3
import Derived.Test.YtgipepjpkmlmaaaQR4
import Derived.Test.YtgipepjpkmlmaaaQR5
import Derived.Test.YtgipepjpkmlmaaaQR6
import Derived.Test.YtgipepjpkmlmaaaQR7
import Derived.Test.YtgipepjpkmlmaaaQR8
import Derived.Test.YtgipepjpkmlmaaaQR9
import Derived.Test.YtgipepjpkmlmaaaQR10
import Derived.Test.YtgipepjpkmlmaaaQR12
import Derived.Test.YtgipepjpkmlmaaaQR14
namespace Go.Proofs.Ytgipepjpkmlmaaa.P
open Go.RowKit Go.Proofs.YtgipepjpkmlmaaaW.PrintWords Go.Proofs.YtgipepjpkmlmaaaW.PrintLast Go.Proofs.YtgipepjpkmlmaaaW.PrintMore
set_option linter.unusedVariables false
set_option linter.unusedSimpArgs false
attribute [local go_sem high] eqA46
theorem ahead_calls (x y : S46) (w : World) : Calls Try.prog 61 #[cellV x, cellV y] w fun e w' => e = .returned (.bool (aheadB x y)) ∧ Below w.heap.size w w' := by
  refine change_ahead.calls x.f0 x.f1 x.f2.f0 x.f2.f1 x.f2.f2 x.f2.f3 x.f2.f4.f0 x.f2.f4.f1 x.f2.f4.f2 x.f2.f4.f3 x.f2.f5 x.f2.f6 y.f0 y.f1 y.f2.f0 y.f2.f1 y.f2.f2 y.f2.f3 y.f2.f4.f0 y.f2.f4.f1 y.f2.f4.f2 y.f2.f4.f3 y.f2.f5 y.f2.f6 (aheadB x y) w ?_
  unfold change_ahead.f aheadB
  by_cases h1 : x.f1 < y.f1
  · rw [if_pos h1, decide_eq_true h1]; rfl
  · rw [if_neg h1, decide_eq_false h1]
    by_cases h2 : x.f1 = y.f1
    · rw [if_pos h2, beq_iff_eq.mpr h2]; rfl
    · rw [if_neg h2, beq_eq_false_iff_ne.mpr h2]; rfl
set_option maxHeartbeats 16000000 in
set_option maxRecDepth 100000 in
theorem diff_calls (a b : S28) (ha : stateR a) (hb : stateR b) (Aa Ab : Option Addr) (ca cb : Nat) (w : World) (hra : Kd.C k46 w Aa a.f4.length a.f4) (hca : a.f4.length ≤ ca) (hrb : Kd.C k46 w Ab b.f4.length b.f4) (hcb : b.f4.length ≤ cb) (hla : a.f4.length ≤ 400) (hlb : b.f4.length ≤ 400) :
    Calls Try.prog 33 #[.agg #[.int .i64 a.f0, .int .i64 a.f1, .int .i64 a.f2, .int .i64 a.f3, .slice Aa a.f4.length ca], .agg #[.int .i64 b.f0, .int .i64 b.f1, .int .i64 b.f2, .int .i64 b.f3, .slice Ab b.f4.length cb]] w fun e w' => ∃ v, e = .returned v ∧ Kd.R k50 50 w' w.heap.size (fun _ => True) v (diffP a b) ∧ Below w.heap.size w w' := by
  have hhead := fun w => head_calls b hb (.slice Ab b.f4.length cb) w
  obtain ⟨D, hD⟩ : ∃ D, diffP a b = D := ⟨_, rfl⟩
  rw [hD]
  have HD := Lib.hid (show headP a b ++ walkP a.f4 b.f4 = D from hD)
  clear hD
  have HHEAD := Lib.hid hhead
  have HRA := Lib.hid hra
  have HRB := Lib.hid hrb
  have HSA := Lib.hid ha
  have HSB := Lib.hid hb
  obtain ⟨W2, hW2⟩ : ∃ W, W = (w.alloc (.cells #[.int .i64 a.f0, .int .i64 a.f1, .int .i64 a.f2, .int .i64 a.f3, .slice Aa a.f4.length ca] 28)).alloc (.cells #[.int .i64 b.f0, .int .i64 b.f1, .int .i64 b.f2, .int .i64 b.f3, .slice Ab b.f4.length cb] 28) := ⟨_, rfl⟩
  have h0 : W2.heap[w.heap.size]? = some (.cells #[.int .i64 a.f0, .int .i64 a.f1, .int .i64 a.f2, .int .i64 a.f3, .slice Aa a.f4.length ca] 28 (0, 0)) := by
    rw [hW2, Below.heap_alloc _ _ _ (by simp)]
    exact heap_alloc_new _ _
  have h1 : W2.heap[w.heap.size + 1]? = some (.cells #[.int .i64 b.f0, .int .i64 b.f1, .int .i64 b.f2, .int .i64 b.f3, .slice Ab b.f4.length cb] 28 (0, 0)) := by
    rw [hW2]
    have := heap_alloc_new (w.alloc (.cells #[.int .i64 a.f0, .int .i64 a.f1, .int .i64 a.f2, .int .i64 a.f3, .slice Aa a.f4.length ca] 28)) (.cells #[.int .i64 b.f0, .int .i64 b.f1, .int .i64 b.f2, .int .i64 b.f3, .slice Ab b.f4.length cb] 28)
    simpa using this
  have hbw : Below w.heap.size w W2 := by rw [hW2]; exact below_alloc (below_alloc (Below.refl _ _) _) _
  have HB := Lib.hid hbw
  have HW2 := Lib.hid hW2
  have H0 := Lib.hid h0
  have H1 := Lib.hid h1
  clear hW2 h0 h1 hbw hhead ha hb hra hrb
  go_enter Try.func33, Try.ntmps33
  go_wp2
  rw [← HW2.out]
  apply wp_scope_straight
  go_upto_region 2 with fail
  go_cut [33] from 8 to 33 (fun v33 wc => ∃ q, v33 = .bool (!q) ∧ q = sameN a b ∧ W2 = wc)
  case first =>
    have HSN := Lib.hid (show sameN a b = (a.f0 == b.f0 && (a.f1 == b.f1 && (a.f2 == b.f2 && (a.f3 == b.f3)))) from rfl)
    obtain ⟨q, hq⟩ : ∃ q, sameN a b = q := ⟨_, rfl⟩
    rw [hq] at HSN
    have HQ := Lib.hid hq
    clear hq
    have hsn := HSN.out
    have z0 : W2.cell? ⟨w.heap.size, 0, none⟩ = some (.int .i64 a.f0) := (blk_cell H0.out 0).trans rfl
    have y0 : W2.cell? ⟨w.heap.size + 1, 0, none⟩ = some (.int .i64 b.f0) := (blk_cell H1.out 0).trans rfl
    have z1 : W2.cell? ⟨w.heap.size, 1, none⟩ = some (.int .i64 a.f1) := (blk_cell H0.out 1).trans rfl
    have y1 : W2.cell? ⟨w.heap.size + 1, 1, none⟩ = some (.int .i64 b.f1) := (blk_cell H1.out 1).trans rfl
    have z2 : W2.cell? ⟨w.heap.size, 2, none⟩ = some (.int .i64 a.f2) := (blk_cell H0.out 2).trans rfl
    have y2 : W2.cell? ⟨w.heap.size + 1, 2, none⟩ = some (.int .i64 b.f2) := (blk_cell H1.out 2).trans rfl
    have z3 : W2.cell? ⟨w.heap.size, 3, none⟩ = some (.int .i64 a.f3) := (blk_cell H0.out 3).trans rfl
    have y3 : W2.cell? ⟨w.heap.size + 1, 3, none⟩ = some (.int .i64 b.f3) := (blk_cell H1.out 3).trans rfl
    by_cases e0 : a.f0 = b.f0
    rotate_left
    · have d0 : (a.f0 != b.f0) = true := bne_iff_ne.mpr e0
      obtain rfl : q = false := by rw [hsn, beq_eq_false_iff_ne.mpr e0]; rfl
      clear hsn
      go_wp2
      go_meet
      case rel => exact ⟨false, rfl, HQ.out.symm, rfl⟩
    have d0 : (a.f0 != b.f0) = false := bne_eq_false_iff_eq.mpr e0
    rw [beq_iff_eq.mpr e0, Bool.true_and] at hsn
    clear e0
    by_cases e1 : a.f1 = b.f1
    rotate_left
    · have d1 : (a.f1 != b.f1) = true := bne_iff_ne.mpr e1
      obtain rfl : q = false := by rw [hsn, beq_eq_false_iff_ne.mpr e1]; rfl
      clear hsn
      go_wp2
      go_meet
      case rel => exact ⟨false, rfl, HQ.out.symm, rfl⟩
    have d1 : (a.f1 != b.f1) = false := bne_eq_false_iff_eq.mpr e1
    rw [beq_iff_eq.mpr e1, Bool.true_and] at hsn
    clear e1
    by_cases e2 : a.f2 = b.f2
    rotate_left
    · have d2 : (a.f2 != b.f2) = true := bne_iff_ne.mpr e2
      obtain rfl : q = false := by rw [hsn, beq_eq_false_iff_ne.mpr e2]; rfl
      clear hsn
      go_wp2
      go_meet
      case rel => exact ⟨false, rfl, HQ.out.symm, rfl⟩
    have d2 : (a.f2 != b.f2) = false := bne_eq_false_iff_eq.mpr e2
    rw [beq_iff_eq.mpr e2, Bool.true_and] at hsn
    clear e2
    obtain ⟨r, hr⟩ : ∃ r, (a.f3 == b.f3) = r := ⟨_, rfl⟩
    rw [hr] at hsn
    subst hsn
    have d3 : (a.f3 != b.f3) = !q := by rw [bne, hr]
    clear hr
    go_wp2
    go_meet
    case rel => exact ⟨q, rfl, HQ.out.symm, rfl⟩
  case rest =>
    obtain ⟨q, rfl, hq, hw⟩ := hcut
    subst hw
    go_upto_if 33 with fail
    go_cut [5] from 34 to 38 (fun v5 wc => ∃ (A5 : Option Addr) (c5 : Nat), v5 = .slice A5 (headP a b).length c5 ∧ Kd.R k50 50 wc W2.heap.size (fun _ => True) (.slice A5 (headP a b).length c5) (headP a b) ∧ Below W2.heap.size W2 wc)
    case first =>
      cases q with
      | true =>
        have HQ := Lib.hid (show headP a b = [] from if_pos hq.symm)
        clear hq
        go_wp2
        go_meet
        case rel => exact ⟨none, 0, by rw [HQ.out]; rfl, by rw [HQ.out]; exact Kd.R_nil _ _ _ _ _, Below.refl _ _⟩
      | false =>
        have HQ := Lib.hid (show headP a b = [headR b] from if_neg (by rw [← hq]; exact Bool.false_ne_true))
        clear hq
        have y0 : W2.cell? ⟨w.heap.size + 1, 0, none⟩ = some (.int .i64 b.f0) := (blk_cell H1.out 0).trans rfl
        have y1 : W2.cell? ⟨w.heap.size + 1, 1, none⟩ = some (.int .i64 b.f1) := (blk_cell H1.out 1).trans rfl
        have y2 : W2.cell? ⟨w.heap.size + 1, 2, none⟩ = some (.int .i64 b.f2) := (blk_cell H1.out 2).trans rfl
        have y3 : W2.cell? ⟨w.heap.size + 1, 3, none⟩ = some (.int .i64 b.f3) := (blk_cell H1.out 3).trans rfl
        have y4 : W2.cell? ⟨w.heap.size + 1, 4, none⟩ = some (.slice Ab b.f4.length cb) := (blk_cell H1.out 4).trans rfl
        obtain ⟨r, hr⟩ : ∃ r, headR b = r := ⟨_, rfl⟩
        rw [hr] at HHEAD HQ
        clear hr
        go_wp2_with (first | (go_at_call 60; go_loud ((with_reducible refine (HHEAD.out _).mono ?_); rintro e w3 ⟨rfl, hb3⟩; have hba := (Below.refl w3.heap.size w3).alloc (Nat.le_refl _) (.cells #[.int .i64 r.f0, .int .i64 r.f1, .string r.f2] 50); have HC5 := Lib.hid (show k50.C (w3.alloc (.cells #[.int .i64 r.f0, .int .i64 r.f1, .string r.f2] 50)) (some ⟨w3.heap.size, 0, none⟩) 1 [(⟨r.f0, r.f1, r.f2⟩ : S50)] from recs_C [(⟨r.f0, r.f1, r.f2⟩ : S50)] (by simp) (heap_alloc_new _ _)); have HB5 := Lib.hid (hb3.trans (hba.mono hb3.size)); clear hba hb3)) | ((with_reducible refine gate_builtin (b := .append) (xs := #[.tmp 34, .tmp 37]) rfl ?_); (try (refine gate_guard (by rfl) ?_; dsimp only)); at_builtin; refine Kd.R_append_rows k50 (w0 := W2) W2.heap.size rfl (.tmp 34) (.tmp 37) 24 50 (.agg #[(.int .i64 0), (.int .i64 0), (.string ⟨#[]⟩)]) 32 rfl Try.underlying24 info50 rfl (by decide) (by omega) (.slice none 0 0) [] [(⟨r.f0, r.f1, r.f2⟩ : S50)] _ _ _ (fun _ => True) (fun _ => False) rfl rfl (Kd.R_nil _ _ _ _ _) HC5.out (fun _ _ h => by obtain rfl := k50_open h; exact k50_mkM _ _ _ _) (fun _ h => h.elim) (fun _ _ => trivial) HB5.out HB5.out.size ?aL ?_; (case aL => simp); intro v8 w8 hR8 hb8 hg8 hat8))
        obtain ⟨A8, c8, rfl, hc8, _⟩ := Kd.R_reads hR8
        go_meet
        case rel =>
          have e : ([] ++ [(⟨r.f0, r.f1, r.f2⟩ : S50)]) = headP a b := by rw [HQ.out]; rfl
          rw [e] at hR8
          exact ⟨A8, c8, by rw [← e], hR8, hb8⟩
    case rest =>
      obtain ⟨A5, c5, rfl, hR5, hb5⟩ := hcut
      go_upto_region 4 with fail
      have HA := Lib.hid (show wc.cell? ⟨w.heap.size, 4, none⟩ = some (.slice Aa a.f4.length ca) from (blk_cell (blk_below H0.out hb5) 4).trans rfl)
      have HBB := Lib.hid (show wc.cell? ⟨w.heap.size + 1, 4, none⟩ = some (.slice Ab b.f4.length cb) from (blk_cell (blk_below H1.out hb5) 4).trans rfl)
      refine wp_region_held_drew (S := fun w_ => Below wc.heap.size wc w_) (by kernel_rfl) (below_drew (Below.refl _ _)) (fun hS_ => ?_)
      have hS : Below wc.heap.size wc _ := hS_
      clear hS_
      change wpAnyH _ _ _ _ _ 6 #[false, false, false, false, false, false] _ _
      refine takeE 0 (some 39) #[true, false, false, false, false, false] hS ?_
      refine takeE 1 (some 40) #[true, true, false, false, false, false] hS ?_ (hy := fun w_ hS_ => by (replace hS_ : Below wc.heap.size wc w_ := hS_); have a0_ := below_cell hS_ HA.out; go_simp <;> with_reducible rfl)
      refine takeE 2 (some 41) #[true, true, true, false, false, false] hS ?_
      refine takeE 3 (some 42) #[true, true, true, true, false, false] hS ?_ (hy := fun w_ hS_ => by (replace hS_ : Below wc.heap.size wc w_ := hS_); have a0_ := below_cell hS_ HBB.out; go_simp <;> with_reducible rfl)
      refine takeE 4 (some 6) #[true, true, true, true, true, false] hS ?_
      refine takeE 5 (some 7) #[true, true, true, true, true, true] hS ?_
      refine wpAnyH_done (by kernel_rfl) ?_ _
      try go_simp
      have HR5 := Lib.hid (Kd.R_below hR5 hS)
      have HB5 := Lib.hid (hb5.trans (hS.mono hb5.size))
      clear hS hb5 hR5
      go_wp2
      go_step3
      have hpl : (headP a b).length ≤ 1 := by unfold headP; split <;> simp
      obtain ⟨hp, hhp⟩ : ∃ hp, headP a b = hp := ⟨_, rfl⟩
      rw [hhp] at HD HR5 hpl ⊢
      have HPL := Lib.hid hpl
      have HCW := Lib.hid HB.out
      clear hhp hpl
      obtain ⟨nh, hnh⟩ : ∃ nh, hp.length = nh := ⟨_, rfl⟩
      rw [hnh] at HR5 HPL ⊢
      have HNH := Lib.hid hnh
      clear hnh
      go_wp2
      go_loopg [5, 6, 7] 900 (fun kq v5 v6 v7 WX => ∃ (la lb : List S46) (ol : List S50) (A6 A7 A5 : Option Addr) (c6 c7 c5 n6 n7 n5 : Nat), v5 = .slice A5 n5 c5 ∧ v6 = .slice A6 n6 c6 ∧ v7 = .slice A7 n7 c7 ∧ n6 = la.length ∧ n7 = lb.length ∧ n5 = ol.length ∧ n6 ≤ c6 ∧ n7 ≤ c7 ∧ Kd.C k46 w A6 n6 la ∧ Kd.C k46 w A7 n7 lb ∧ Kd.R k50 50 WX w.heap.size (fun _ => True) (.slice A5 n5 c5) ol ∧ Below w.heap.size w WX ∧ ol ++ walkP la lb = D ∧ (∀ c ∈ la, cellR c) ∧ (∀ c ∈ lb, cellR c) ∧ n6 + n7 ≤ kq ∧ n5 + n6 + n7 ≤ 1000)
      case atStart => exact ⟨a.f4, b.f4, hp, Aa, Ab, A5, ca, cb, c5, _, _, _, rfl, rfl, rfl, rfl, rfl, HNH.out.symm, hca, hcb, HRA.out, HRB.out, R_base50 HR5.out HB.out.size, HB.out.trans (HB5.out.mono HB.out.size), HD.out, HSA.out.cs, HSB.out.cs, by omega, by have := HPL.out; omega⟩
      case round =>
        obtain ⟨la, lb, ol, A6, A7, A5, c6, c7, c5, n6, n7, n5, rfl, rfl, rfl, e6, e7, e5, hc6, hc7, hC6, hC7, hR5, hbr, hwk, hra, hrb, hk, hlen⟩ := hrel
        obtain ⟨WX, hWX⟩ : ∃ W, W = wr := ⟨_, rfl⟩
        subst hWX
        have HC6 := Lib.hid hC6
        have HC7 := Lib.hid hC7
        have HR5 := Lib.hid hR5
        have HBR := Lib.hid hbr
        have HRA := Lib.hid hra
        have HRB := Lib.hid hrb
        have HWK := Lib.hid hwk
        have HE6 := Lib.hid e6
        have HE7 := Lib.hid e7
        have HE5 := Lib.hid e5
        have HWX := Lib.hid hbr
        clear hC6 hC7 hR5 hbr hra hrb hwk e6 e7 e5
        rcases la with _ | ⟨x, la⟩
        · rcases lb with _ | ⟨y, lb⟩
          · obtain rfl : n6 = 0 := HE6.out
            obtain rfl : n7 = 0 := HE7.out
            go_wp2
            rw [Exit.noGoto_ret]
            have hwk := HWK.out
            rw [walk_nn, List.append_nil] at hwk
            subst hwk
            go_ret
            exact ⟨_, rfl, HR5.out, HWX.out⟩
          · obtain ⟨m7, rfl⟩ : ∃ m, n7 = m + 1 := ⟨lb.length, HE7.out⟩
            obtain rfl : n6 = 0 := HE6.out
            obtain ⟨ady, had, x0, x1, x2, x3, x4, x5, x6, x7, x8, x9, x10, x11⟩ := at_T46 (Kd.C_below HC7.out HWX.out) 0 (by omega) (by have := HE7.out; omega)
            cases had
            rw [show rd_T46 (y :: lb) 0 = y from rfl] at x0 x1 x2 x3 x4 x5 x6 x7 x8 x9 x10 x11
            simp only [Int.toNat_zero, Nat.zero_mul, Addr.add_zero'] at x0 x1 x2 x3 x4 x5 x6 x7 x8 x9 x10 x11
            have HY0 := Lib.hid x0
            have HY1 := Lib.hid x1
            have HY2 := Lib.hid x2
            have HY3 := Lib.hid x3
            have HY4 := Lib.hid x4
            have HY5 := Lib.hid x5
            have HY6 := Lib.hid x6
            have HY7 := Lib.hid x7
            have HY8 := Lib.hid x8
            have HY9 := Lib.hid x9
            have HY10 := Lib.hid x10
            have HY11 := Lib.hid x11
            clear x0 x1 x2 x3 x4 x5 x6 x7 x8 x9 x10 x11
            cases gk with
            | zero => omega
            | succ gk =>
            go_wp2
            refine wp_region_held_drew (S := fun w_ => Below WX.heap.size WX w_) (by kernel_rfl) (below_drew (Below.refl _ _)) (fun hS_ => ?_)
            have hS : Below WX.heap.size WX _ := hS_
            clear hS_
            change wpAnyH _ _ _ _ _ 18 #[false, false, false, false, false, false, false, false, false, false, false, false, false, false, false, false, false, false] _ _
            refine takeE 0 (some 71) #[true, false, false, false, false, false, false, false, false, false, false, false, false, false, false, false, false, false] hS ?_
            refine doD (i := 1) (ls2 := #[true, true, false, false, false, false, false, false, false, false, false, false, false, false, false, false, false, false]) (by kernel_rfl) rfl (by kernel_rfl) (by kernel_rfl) (fun K hK => ?_)
            go_simp
            refine hK.out _ _ ?_ (fun hS_ => ?_)
            · show Below WX.heap.size WX _
              exact hS
            clear hK K hS
            have hS : Below WX.heap.size WX _ := hS_
            clear hS_
            refine takeE 2 (some 73) #[true, true, true, false, false, false, false, false, false, false, false, false, false, false, false, false, false, false] hS ?_
            refine takeE 3 (some 74) #[true, true, true, true, false, false, false, false, false, false, false, false, false, false, false, false, false, false] hS ?_
            refine takeE 4 (some 75) #[true, true, true, true, true, false, false, false, false, false, false, false, false, false, false, false, false, false] hS ?_
            refine doD (i := 5) (ls2 := #[true, true, true, true, true, true, false, false, false, false, false, false, false, false, false, false, false, false]) (by kernel_rfl) rfl (by kernel_rfl) (by kernel_rfl) (fun K hK => ?_)
            go_simp
            refine hK.out _ _ ?_ (fun hS_ => ?_)
            · show Below WX.heap.size WX _
              exact hS
            clear hK K hS
            have hS : Below WX.heap.size WX _ := hS_
            clear hS_
            refine takeE 6 (some 77) #[true, true, true, true, true, true, true, false, false, false, false, false, false, false, false, false, false, false] hS ?_
            refine takeE 7 (some 78) #[true, true, true, true, true, true, true, true, false, false, false, false, false, false, false, false, false, false] hS ?_
            refine offE 8 (some 79) #[true, true, true, true, true, true, true, true, true, false, false, false, false, false, false, false, false, false] hS ?_
            refine offE 9 (some 80) #[true, true, true, true, true, true, true, true, true, true, false, false, false, false, false, false, false, false] hS ?_
            refine offE 10 (some 81) #[true, true, true, true, true, true, true, true, true, true, true, false, false, false, false, false, false, false] hS ?_
            refine offE 11 (some 82) #[true, true, true, true, true, true, true, true, true, true, true, true, false, false, false, false, false, false] hS ?_
            refine offE 12 (some 83) #[true, true, true, true, true, true, true, true, true, true, true, true, true, false, false, false, false, false] hS ?_
            refine offE 13 (some 84) #[true, true, true, true, true, true, true, true, true, true, true, true, true, true, false, false, false, false] hS ?_
            refine offE 14 (some 85) #[true, true, true, true, true, true, true, true, true, true, true, true, true, true, true, false, false, false] hS ?_
            refine takeE 15 (some 86) #[true, true, true, true, true, true, true, true, true, true, true, true, true, true, true, true, false, false] hS ?_
            refine takeE 16 (some 87) #[true, true, true, true, true, true, true, true, true, true, true, true, true, true, true, true, true, false] hS ?_
            refine takeE 17 (some 70) #[true, true, true, true, true, true, true, true, true, true, true, true, true, true, true, true, true, true] hS ?_
            refine wpAnyH_done (by kernel_rfl) ?_ _
            try go_simp
            have HS9 := Lib.hid hS
            clear hS
            go_wp2
            refine wp_region_held_drew (S := fun w_ => Below WX.drew.heap.size WX.drew w_) (by kernel_rfl) (below_drew (Below.refl _ _)) (fun hS_ => ?_)
            have hS : Below WX.drew.heap.size WX.drew _ := hS_
            clear hS_
            change wpAnyH _ _ _ _ _ 13 #[false, false, false, false, false, false, false, false, false, false, false, false, false] _ _
            refine takeE 0 (some 98) #[true, false, false, false, false, false, false, false, false, false, false, false, false] hS ?_
            refine doD (i := 1) (ls2 := #[true, true, false, false, false, false, false, false, false, false, false, false, false]) (by kernel_rfl) rfl (by kernel_rfl) (by kernel_rfl) (fun K hK => ?_)
            go_simp
            refine hK.out _ _ ?_ (fun hS_ => ?_)
            · show Below WX.drew.heap.size WX.drew _
              exact hS
            clear hK K hS
            have hS : Below WX.drew.heap.size WX.drew _ := hS_
            clear hS_
            refine takeE 2 (some 100) #[true, true, true, false, false, false, false, false, false, false, false, false, false] hS ?_
            refine takeE 3 (some 101) #[true, true, true, true, false, false, false, false, false, false, false, false, false] hS ?_
            refine offE 4 (some 102) #[true, true, true, true, true, false, false, false, false, false, false, false, false] hS ?_
            refine offE 5 (some 103) #[true, true, true, true, true, true, false, false, false, false, false, false, false] hS ?_
            refine offE 6 (some 104) #[true, true, true, true, true, true, true, false, false, false, false, false, false] hS ?_
            refine offE 7 (some 105) #[true, true, true, true, true, true, true, true, false, false, false, false, false] hS ?_
            refine offE 8 (some 106) #[true, true, true, true, true, true, true, true, true, false, false, false, false] hS ?_
            refine offE 9 (some 107) #[true, true, true, true, true, true, true, true, true, true, false, false, false] hS ?_
            refine offE 10 (some 108) #[true, true, true, true, true, true, true, true, true, true, true, false, false] hS ?_
            refine takeE 11 (some 109) #[true, true, true, true, true, true, true, true, true, true, true, true, false] hS ?_
            refine takeE 12 (some 97) #[true, true, true, true, true, true, true, true, true, true, true, true, true] hS ?_
            refine wpAnyH_done (by kernel_rfl) ?_ _
            try go_simp
            have HS12 := Lib.hid (Below.trans HS9.out (hS.mono HS9.out.size))
            clear hS
            obtain ⟨r, hr⟩ : ∃ r, tellH y = r := ⟨_, rfl⟩
            have htell := fun w => toldH_calls y (HRB.out y List.mem_cons_self) w
            rw [hr] at htell
            have HTELL := Lib.hid htell
            have HRR := Lib.hid hr
            clear htell hr
            have x0 := below_cell HS12.out HY0.out
            have x1 := below_cell HS12.out HY1.out
            have x2 := below_cell HS12.out HY2.out
            have x3 := below_cell HS12.out HY3.out
            have x4 := below_cell HS12.out HY4.out
            have x5 := below_cell HS12.out HY5.out
            have x6 := below_cell HS12.out HY6.out
            have x7 := below_cell HS12.out HY7.out
            have x8 := below_cell HS12.out HY8.out
            have x9 := below_cell HS12.out HY9.out
            have x10 := below_cell HS12.out HY10.out
            have x11 := below_cell HS12.out HY11.out
            have hl5 : ol.length ≤ 1000 := by have := HE5.out; omega
            go_wp2_with (first | (go_at_call 62; go_loud ((with_reducible refine (HTELL.out _).mono ?_); rintro e w6 ⟨rfl, hb6⟩; have hba := (Below.refl w6.heap.size w6).alloc (Nat.le_refl _) (.cells #[.int .i64 r.f0, .int .i64 r.f1, .string r.f2] 50); have HC8 := Lib.hid (show k50.C (w6.alloc (.cells #[.int .i64 r.f0, .int .i64 r.f1, .string r.f2] 50)) (some ⟨w6.heap.size, 0, none⟩) 1 [(⟨r.f0, r.f1, r.f2⟩ : S50)] from recs_C [(⟨r.f0, r.f1, r.f2⟩ : S50)] (by simp) (heap_alloc_new _ _)); have hbz := HS12.out.trans ((hb6.trans (hba.mono hb6.size)).mono HS12.out.size); have HR8 := Lib.hid (Kd.R_below HR5.out hbz); have HB8 := Lib.hid (HWX.out.trans (hbz.mono HWX.out.size)); clear hba hb6 hbz)) | ((with_reducible refine gate_builtin (b := .append) (xs := #[.tmp 110, .tmp 115]) rfl ?_); (try (refine gate_guard (by rfl) ?_; dsimp only)); at_builtin; go_loud (refine Kd.R_append_rows k50 (w0 := w) w.heap.size rfl (.tmp 110) (.tmp 115) 24 50 (.agg #[(.int .i64 0), (.int .i64 0), (.string ⟨#[]⟩)]) 32 rfl Try.underlying24 info50 rfl (by decide) (by omega) (.slice A5 n5 c5) ol [(⟨r.f0, r.f1, r.f2⟩ : S50)] _ _ _ (fun _ => True) (fun _ => False) rfl rfl HR8.out HC8.out (fun _ _ h => by obtain rfl := k50_open h; exact k50_mkM _ _ _ _) (fun _ h => h.elim) (fun _ _ => trivial) HB8.out HB8.out.size ?aL ?_; (case aL => have h_ := HE5.out; first | omega | (simp; done) | (simp; omega)); intro v8 w8 hR8 hb8 hg8 hat8; obtain ⟨A9, c9, hv9, hc9, _⟩ := Kd.R_reads hR8; have hln : (ol ++ [(⟨r.f0, r.f1, r.f2⟩ : S50)]).length = n5 + 1 := (by have h_ := HE5.out; simp only [List.length_append, List.length_cons, List.length_nil]; omega); rw [hln] at hv9; subst hv9; have HR9 := Lib.hid hR8; have HB9 := Lib.hid hb8; clear hg8 hat8 hln hb8 hR8)))
            · go_roundg gk
              case measure => omega
              case rel =>
                have h6 := HE6.out
                have h7 := HE7.out
                simp only [List.length_cons, List.length_nil] at h6 h7
                exact ⟨[], lb, ol ++ [(⟨r.f0, r.f1, r.f2⟩ : S50)], _, _, A9, _, _, c9, 0, m7, n5 + 1, rfl, rfl, rfl, rfl, by omega, by simp [HE5.out], by omega, by omega, HC6.out, C_none (by omega) (by omega), HR9.out, HB9.out, by have h_ := HWK.out; rw [walk_nc, HRR.out] at h_; rw [List.append_assoc]; exact h_, HRA.out, fun c hc => HRB.out c (List.mem_cons_of_mem _ hc), by omega, by omega⟩
            · go_roundg gk
              case measure => omega
              case rel =>
                have h6 := HE6.out
                have h7 := HE7.out
                simp only [List.length_cons, List.length_nil] at h6 h7
                exact ⟨[], lb, ol ++ [(⟨r.f0, r.f1, r.f2⟩ : S50)], _, _, A9, _, _, c9, 0, m7, n5 + 1, rfl, rfl, rfl, rfl, by omega, by simp [HE5.out], by omega, by omega, HC6.out, C_tail HC7.out hc7, HR9.out, HB9.out, by have h_ := HWK.out; rw [walk_nc, HRR.out] at h_; rw [List.append_assoc]; exact h_, HRA.out, fun c hc => HRB.out c (List.mem_cons_of_mem _ hc), by omega, by omega⟩
        · rcases lb with _ | ⟨y, lb⟩
          · obtain ⟨m6, rfl⟩ : ∃ m, n6 = m + 1 := ⟨la.length, HE6.out⟩
            obtain rfl : n7 = 0 := HE7.out
            obtain ⟨adx, had, x0, x1, x2, x3, x4, x5, x6, x7, x8, x9, x10, x11⟩ := at_T46 (Kd.C_below HC6.out HWX.out) 0 (by omega) (by have := HE6.out; omega)
            cases had
            rw [show rd_T46 (x :: la) 0 = x from rfl] at x0 x1 x2 x3 x4 x5 x6 x7 x8 x9 x10 x11
            simp only [Int.toNat_zero, Nat.zero_mul, Addr.add_zero'] at x0 x1 x2 x3 x4 x5 x6 x7 x8 x9 x10 x11
            have HX0 := Lib.hid x0
            have HX1 := Lib.hid x1
            have HX2 := Lib.hid x2
            have HX3 := Lib.hid x3
            have HX4 := Lib.hid x4
            have HX5 := Lib.hid x5
            have HX6 := Lib.hid x6
            have HX7 := Lib.hid x7
            have HX8 := Lib.hid x8
            have HX9 := Lib.hid x9
            have HX10 := Lib.hid x10
            have HX11 := Lib.hid x11
            clear x0 x1 x2 x3 x4 x5 x6 x7 x8 x9 x10 x11
            cases gk with
            | zero => omega
            | succ gk =>
            go_wp2
            refine wp_region_held_drew (S := fun w_ => Below WX.heap.size WX w_) (by kernel_rfl) (below_drew (Below.refl _ _)) (fun hS_ => ?_)
            have hS : Below WX.heap.size WX _ := hS_
            clear hS_
            change wpAnyH _ _ _ _ _ 18 #[false, false, false, false, false, false, false, false, false, false, false, false, false, false, false, false, false, false] _ _
            refine takeE 0 (some 71) #[true, false, false, false, false, false, false, false, false, false, false, false, false, false, false, false, false, false] hS ?_
            refine doD (i := 1) (ls2 := #[true, true, false, false, false, false, false, false, false, false, false, false, false, false, false, false, false, false]) (by kernel_rfl) rfl (by kernel_rfl) (by kernel_rfl) (fun K hK => ?_)
            go_simp
            refine hK.out _ _ ?_ (fun hS_ => ?_)
            · show Below WX.heap.size WX _
              exact hS
            clear hK K hS
            have hS : Below WX.heap.size WX _ := hS_
            clear hS_
            refine takeE 2 (some 73) #[true, true, true, false, false, false, false, false, false, false, false, false, false, false, false, false, false, false] hS ?_
            refine takeE 3 (some 74) #[true, true, true, true, false, false, false, false, false, false, false, false, false, false, false, false, false, false] hS ?_
            refine offE 4 (some 75) #[true, true, true, true, true, false, false, false, false, false, false, false, false, false, false, false, false, false] hS ?_
            refine offE 5 (some 76) #[true, true, true, true, true, true, false, false, false, false, false, false, false, false, false, false, false, false] hS ?_
            refine offE 6 (some 77) #[true, true, true, true, true, true, true, false, false, false, false, false, false, false, false, false, false, false] hS ?_
            refine offE 7 (some 78) #[true, true, true, true, true, true, true, true, false, false, false, false, false, false, false, false, false, false] hS ?_
            refine offE 8 (some 79) #[true, true, true, true, true, true, true, true, true, false, false, false, false, false, false, false, false, false] hS ?_
            refine offE 9 (some 80) #[true, true, true, true, true, true, true, true, true, true, false, false, false, false, false, false, false, false] hS ?_
            refine offE 10 (some 81) #[true, true, true, true, true, true, true, true, true, true, true, false, false, false, false, false, false, false] hS ?_
            refine offE 11 (some 82) #[true, true, true, true, true, true, true, true, true, true, true, true, false, false, false, false, false, false] hS ?_
            refine offE 12 (some 83) #[true, true, true, true, true, true, true, true, true, true, true, true, true, false, false, false, false, false] hS ?_
            refine offE 13 (some 84) #[true, true, true, true, true, true, true, true, true, true, true, true, true, true, false, false, false, false] hS ?_
            refine offE 14 (some 85) #[true, true, true, true, true, true, true, true, true, true, true, true, true, true, true, false, false, false] hS ?_
            refine offE 15 (some 86) #[true, true, true, true, true, true, true, true, true, true, true, true, true, true, true, true, false, false] hS ?_
            refine takeE 16 (some 87) #[true, true, true, true, true, true, true, true, true, true, true, true, true, true, true, true, true, false] hS ?_
            refine takeE 17 (some 70) #[true, true, true, true, true, true, true, true, true, true, true, true, true, true, true, true, true, true] hS ?_
            refine wpAnyH_done (by kernel_rfl) ?_ _
            try go_simp
            have HS9 := Lib.hid hS
            clear hS
            obtain ⟨r, hr⟩ : ∃ r, tellG x = r := ⟨_, rfl⟩
            have htell := fun w => toldG_calls x (HRA.out x List.mem_cons_self) w
            rw [hr] at htell
            have HTELL := Lib.hid htell
            have HRR := Lib.hid hr
            clear htell hr
            have x0 := below_cell HS9.out HX0.out
            have x1 := below_cell HS9.out HX1.out
            have x2 := below_cell HS9.out HX2.out
            have x3 := below_cell HS9.out HX3.out
            have x4 := below_cell HS9.out HX4.out
            have x5 := below_cell HS9.out HX5.out
            have x6 := below_cell HS9.out HX6.out
            have x7 := below_cell HS9.out HX7.out
            have x8 := below_cell HS9.out HX8.out
            have x9 := below_cell HS9.out HX9.out
            have x10 := below_cell HS9.out HX10.out
            have x11 := below_cell HS9.out HX11.out
            have hl5 : ol.length ≤ 1000 := by have := HE5.out; omega
            go_wp2_with (first | (go_at_call 62; go_loud ((with_reducible refine (HTELL.out _).mono ?_); rintro e w6 ⟨rfl, hb6⟩; have hba := (Below.refl w6.heap.size w6).alloc (Nat.le_refl _) (.cells #[.int .i64 r.f0, .int .i64 r.f1, .string r.f2] 50); have HC8 := Lib.hid (show k50.C (w6.alloc (.cells #[.int .i64 r.f0, .int .i64 r.f1, .string r.f2] 50)) (some ⟨w6.heap.size, 0, none⟩) 1 [(⟨r.f0, r.f1, r.f2⟩ : S50)] from recs_C [(⟨r.f0, r.f1, r.f2⟩ : S50)] (by simp) (heap_alloc_new _ _)); have hbz := HS9.out.trans ((hb6.trans (hba.mono hb6.size)).mono HS9.out.size); have HR8 := Lib.hid (Kd.R_below HR5.out hbz); have HB8 := Lib.hid (HWX.out.trans (hbz.mono HWX.out.size)); clear hba hb6 hbz)) | ((with_reducible refine gate_builtin (b := .append) (xs := #[.tmp 88, .tmp 93]) rfl ?_); (try (refine gate_guard (by rfl) ?_; dsimp only)); at_builtin; go_loud (refine Kd.R_append_rows k50 (w0 := w) w.heap.size rfl (.tmp 88) (.tmp 93) 24 50 (.agg #[(.int .i64 0), (.int .i64 0), (.string ⟨#[]⟩)]) 32 rfl Try.underlying24 info50 rfl (by decide) (by omega) (.slice A5 n5 c5) ol [(⟨r.f0, r.f1, r.f2⟩ : S50)] _ _ _ (fun _ => True) (fun _ => False) rfl rfl HR8.out HC8.out (fun _ _ h => by obtain rfl := k50_open h; exact k50_mkM _ _ _ _) (fun _ h => h.elim) (fun _ _ => trivial) HB8.out HB8.out.size ?aL ?_; (case aL => have h_ := HE5.out; first | omega | (simp; done) | (simp; omega)); intro v8 w8 hR8 hb8 hg8 hat8; obtain ⟨A9, c9, hv9, hc9, _⟩ := Kd.R_reads hR8; have hln : (ol ++ [(⟨r.f0, r.f1, r.f2⟩ : S50)]).length = n5 + 1 := (by have h_ := HE5.out; simp only [List.length_append, List.length_cons, List.length_nil]; omega); rw [hln] at hv9; subst hv9; have HR9 := Lib.hid hR8; have HB9 := Lib.hid hb8; clear hg8 hat8 hln hb8 hR8)))
            · go_roundg gk
              case measure => omega
              case rel =>
                have h6 := HE6.out
                have h7 := HE7.out
                simp only [List.length_cons, List.length_nil] at h6 h7
                exact ⟨la, [], ol ++ [(⟨r.f0, r.f1, r.f2⟩ : S50)], _, _, A9, _, _, c9, m6, 0, n5 + 1, rfl, rfl, rfl, by omega, rfl, by simp [HE5.out], by omega, by omega, C_none (by omega) (by omega), HC7.out, HR9.out, HB9.out, by have h_ := HWK.out; rw [walk_cn, HRR.out] at h_; rw [List.append_assoc]; exact h_, fun c hc => HRA.out c (List.mem_cons_of_mem _ hc), HRB.out, by omega, by omega⟩
            · go_roundg gk
              case measure => omega
              case rel =>
                have h6 := HE6.out
                have h7 := HE7.out
                simp only [List.length_cons, List.length_nil] at h6 h7
                exact ⟨la, [], ol ++ [(⟨r.f0, r.f1, r.f2⟩ : S50)], _, _, A9, _, _, c9, m6, 0, n5 + 1, rfl, rfl, rfl, by omega, rfl, by simp [HE5.out], by omega, by omega, C_tail HC6.out hc6, HC7.out, HR9.out, HB9.out, by have h_ := HWK.out; rw [walk_cn, HRR.out] at h_; rw [List.append_assoc]; exact h_, fun c hc => HRA.out c (List.mem_cons_of_mem _ hc), HRB.out, by omega, by omega⟩
          · obtain ⟨m6, rfl⟩ : ∃ m, n6 = m + 1 := ⟨la.length, HE6.out⟩
            obtain ⟨m7, rfl⟩ : ∃ m, n7 = m + 1 := ⟨lb.length, HE7.out⟩
            obtain ⟨adx, had, x0, x1, x2, x3, x4, x5, x6, x7, x8, x9, x10, x11⟩ := at_T46 (Kd.C_below HC6.out HWX.out) 0 (by omega) (by have := HE6.out; omega)
            cases had
            rw [show rd_T46 (x :: la) 0 = x from rfl] at x0 x1 x2 x3 x4 x5 x6 x7 x8 x9 x10 x11
            simp only [Int.toNat_zero, Nat.zero_mul, Addr.add_zero'] at x0 x1 x2 x3 x4 x5 x6 x7 x8 x9 x10 x11
            have HX0 := Lib.hid x0
            have HX1 := Lib.hid x1
            have HX2 := Lib.hid x2
            have HX3 := Lib.hid x3
            have HX4 := Lib.hid x4
            have HX5 := Lib.hid x5
            have HX6 := Lib.hid x6
            have HX7 := Lib.hid x7
            have HX8 := Lib.hid x8
            have HX9 := Lib.hid x9
            have HX10 := Lib.hid x10
            have HX11 := Lib.hid x11
            clear x0 x1 x2 x3 x4 x5 x6 x7 x8 x9 x10 x11
            obtain ⟨ady, had, x0, x1, x2, x3, x4, x5, x6, x7, x8, x9, x10, x11⟩ := at_T46 (Kd.C_below HC7.out HWX.out) 0 (by omega) (by have := HE7.out; omega)
            cases had
            rw [show rd_T46 (y :: lb) 0 = y from rfl] at x0 x1 x2 x3 x4 x5 x6 x7 x8 x9 x10 x11
            simp only [Int.toNat_zero, Nat.zero_mul, Addr.add_zero'] at x0 x1 x2 x3 x4 x5 x6 x7 x8 x9 x10 x11
            have HY0 := Lib.hid x0
            have HY1 := Lib.hid x1
            have HY2 := Lib.hid x2
            have HY3 := Lib.hid x3
            have HY4 := Lib.hid x4
            have HY5 := Lib.hid x5
            have HY6 := Lib.hid x6
            have HY7 := Lib.hid x7
            have HY8 := Lib.hid x8
            have HY9 := Lib.hid x9
            have HY10 := Lib.hid x10
            have HY11 := Lib.hid x11
            clear x0 x1 x2 x3 x4 x5 x6 x7 x8 x9 x10 x11
            cases gk with
            | zero => omega
            | succ gk =>
            have hax : ∀ w, Calls Try.prog 61 #[cellV x, cellV y] w fun e w' => e = .returned (.bool (aheadB x y)) ∧ Below w.heap.size w w' := fun w => ahead_calls x y w
            obtain ⟨q1, hq1⟩ : ∃ q, aheadB x y = q := ⟨_, rfl⟩
            rw [hq1] at hax
            have HAXY := Lib.hid hax
            have HQ1 := Lib.hid hq1
            clear hax hq1
            have hax : ∀ w, Calls Try.prog 61 #[cellV y, cellV x] w fun e w' => e = .returned (.bool (aheadB y x)) ∧ Below w.heap.size w w' := fun w => ahead_calls y x w
            obtain ⟨q2, hq2⟩ : ∃ q, aheadB y x = q := ⟨_, rfl⟩
            rw [hq2] at hax
            have HAYX := Lib.hid hax
            have HQ2 := Lib.hid hq2
            clear hax hq2
            have heq := fun (d : Nat) (w : World) => eqA46 d w x.f0 y.f0 x.f1 y.f1 x.f2.f0 y.f2.f0 x.f2.f1 y.f2.f1 x.f2.f2 y.f2.f2 x.f2.f3 y.f2.f3 x.f2.f4.f0 y.f2.f4.f0 x.f2.f4.f1 y.f2.f4.f1 x.f2.f4.f2 y.f2.f4.f2 x.f2.f4.f3 y.f2.f4.f3 x.f2.f5 y.f2.f5 x.f2.f6 y.f2.f6
            have hq3 : (_ : Bool) = _ := (rfl : eqC x y = eqC x y)
            obtain ⟨q3, hq3⟩ : ∃ q, eqC x y = q := ⟨_, rfl⟩
            have heq2 : ∀ (d : Nat) (w : World), (Op.equalIn (d + 4) 46 (cellV x) (cellV y)).run Try.prog w = .ok q3 w := fun d w => by rw [← hq3]; exact heq d w
            have HEQ := Lib.hid heq2
            have HQ3 := Lib.hid hq3
            clear heq heq2 hq3
            go_wp2
            cases q1 with
            | true =>
              refine wp_region_held_drew (S := fun w_ => Below WX.heap.size WX w_) (by kernel_rfl) (below_drew (Below.refl _ _)) (fun hS_ => ?_)
              have hS : Below WX.heap.size WX _ := hS_
              clear hS_
              change wpAnyH _ _ _ _ _ 18 #[false, false, false, false, false, false, false, false, false, false, false, false, false, false, false, false, false, false] _ _
              refine takeE 0 (some 71) #[true, false, false, false, false, false, false, false, false, false, false, false, false, false, false, false, false, false] hS ?_
              refine doD (i := 1) (ls2 := #[true, true, false, false, false, false, false, false, false, false, false, false, false, false, false, false, false, false]) (by kernel_rfl) rfl (by kernel_rfl) (by kernel_rfl) (fun K hK => ?_)
              go_simp
              refine hK.out _ _ ?_ (fun hS_ => ?_)
              · show Below WX.heap.size WX _
                exact hS
              clear hK K hS
              have hS : Below WX.heap.size WX _ := hS_
              clear hS_
              refine takeE 2 (some 73) #[true, true, true, false, false, false, false, false, false, false, false, false, false, false, false, false, false, false] hS ?_
              refine takeE 3 (some 74) #[true, true, true, true, false, false, false, false, false, false, false, false, false, false, false, false, false, false] hS ?_
              refine takeE 4 (some 75) #[true, true, true, true, true, false, false, false, false, false, false, false, false, false, false, false, false, false] hS ?_
              refine doD (i := 5) (ls2 := #[true, true, true, true, true, true, false, false, false, false, false, false, false, false, false, false, false, false]) (by kernel_rfl) rfl (by kernel_rfl) (by kernel_rfl) (fun K hK => ?_)
              go_simp
              refine hK.out _ _ ?_ (fun hS_ => ?_)
              · show Below WX.heap.size WX _
                exact hS
              clear hK K hS
              have hS : Below WX.heap.size WX _ := hS_
              clear hS_
              refine takeE 6 (some 77) #[true, true, true, true, true, true, true, false, false, false, false, false, false, false, false, false, false, false] hS ?_
              refine takeE 7 (some 78) #[true, true, true, true, true, true, true, true, false, false, false, false, false, false, false, false, false, false] hS ?_
              refine takeE 8 (some 79) #[true, true, true, true, true, true, true, true, true, false, false, false, false, false, false, false, false, false] hS ?_
              refine takeE 9 (some 80) #[true, true, true, true, true, true, true, true, true, true, false, false, false, false, false, false, false, false] hS ?_
              refine takeE 10 (some 81) #[true, true, true, true, true, true, true, true, true, true, true, false, false, false, false, false, false, false] hS ?_ (hy := fun w_ hS_ => by (replace hS_ : Below WX.heap.size WX w_ := hS_); have x0_ := below_cell hS_ HX0.out; have x1_ := below_cell hS_ HX1.out; have x2_ := below_cell hS_ HX2.out; have x3_ := below_cell hS_ HX3.out; have x4_ := below_cell hS_ HX4.out; have x5_ := below_cell hS_ HX5.out; have x6_ := below_cell hS_ HX6.out; have x7_ := below_cell hS_ HX7.out; have x8_ := below_cell hS_ HX8.out; have x9_ := below_cell hS_ HX9.out; have x10_ := below_cell hS_ HX10.out; have x11_ := below_cell hS_ HX11.out; go_simp <;> with_reducible rfl)
              refine takeE 11 (some 82) #[true, true, true, true, true, true, true, true, true, true, true, true, false, false, false, false, false, false] hS ?_
              refine takeE 12 (some 83) #[true, true, true, true, true, true, true, true, true, true, true, true, true, false, false, false, false, false] hS ?_
              refine takeE 13 (some 84) #[true, true, true, true, true, true, true, true, true, true, true, true, true, true, false, false, false, false] hS ?_ (hy := fun w_ hS_ => by (replace hS_ : Below WX.heap.size WX w_ := hS_); have x0_ := below_cell hS_ HY0.out; have x1_ := below_cell hS_ HY1.out; have x2_ := below_cell hS_ HY2.out; have x3_ := below_cell hS_ HY3.out; have x4_ := below_cell hS_ HY4.out; have x5_ := below_cell hS_ HY5.out; have x6_ := below_cell hS_ HY6.out; have x7_ := below_cell hS_ HY7.out; have x8_ := below_cell hS_ HY8.out; have x9_ := below_cell hS_ HY9.out; have x10_ := below_cell hS_ HY10.out; have x11_ := below_cell hS_ HY11.out; go_simp <;> with_reducible rfl)
              refine doD (i := 14) (ls2 := #[true, true, true, true, true, true, true, true, true, true, true, true, true, true, true, false, false, false]) (by kernel_rfl) rfl (by kernel_rfl) (by kernel_rfl) (fun K hK => ?_)
              go_simp
              go_wp2_with (first | (go_at_call 61; go_loud ((with_reducible refine (HAXY.out _).mono ?_); rintro e w3 ⟨rfl, hb3⟩)))
              refine hK.out _ _ ?_ (fun hS_ => ?_)
              · show Below WX.heap.size WX _
                exact hS.trans (hb3.mono hS.size)
              clear hK K hS hb3
              have hS : Below WX.heap.size WX _ := hS_
              clear hS_
              refine takeE 15 (some 86) #[true, true, true, true, true, true, true, true, true, true, true, true, true, true, true, true, false, false] hS ?_
              refine takeE 16 (some 87) #[true, true, true, true, true, true, true, true, true, true, true, true, true, true, true, true, true, false] hS ?_
              refine takeE 17 (some 70) #[true, true, true, true, true, true, true, true, true, true, true, true, true, true, true, true, true, true] hS ?_
              refine wpAnyH_done (by kernel_rfl) ?_ _
              try go_simp
              have HS9 := Lib.hid hS
              clear hS
              obtain ⟨r, hr⟩ : ∃ r, tellG x = r := ⟨_, rfl⟩
              have htell := fun w => toldG_calls x (HRA.out x List.mem_cons_self) w
              rw [hr] at htell
              have HTELL := Lib.hid htell
              have HRR := Lib.hid hr
              clear htell hr
              have x0 := below_cell HS9.out HX0.out
              have x1 := below_cell HS9.out HX1.out
              have x2 := below_cell HS9.out HX2.out
              have x3 := below_cell HS9.out HX3.out
              have x4 := below_cell HS9.out HX4.out
              have x5 := below_cell HS9.out HX5.out
              have x6 := below_cell HS9.out HX6.out
              have x7 := below_cell HS9.out HX7.out
              have x8 := below_cell HS9.out HX8.out
              have x9 := below_cell HS9.out HX9.out
              have x10 := below_cell HS9.out HX10.out
              have x11 := below_cell HS9.out HX11.out
              have hl5 : ol.length ≤ 1000 := by have := HE5.out; omega
              go_wp2_with (first | (go_at_call 62; go_loud ((with_reducible refine (HTELL.out _).mono ?_); rintro e w6 ⟨rfl, hb6⟩; have hba := (Below.refl w6.heap.size w6).alloc (Nat.le_refl _) (.cells #[.int .i64 r.f0, .int .i64 r.f1, .string r.f2] 50); have HC8 := Lib.hid (show k50.C (w6.alloc (.cells #[.int .i64 r.f0, .int .i64 r.f1, .string r.f2] 50)) (some ⟨w6.heap.size, 0, none⟩) 1 [(⟨r.f0, r.f1, r.f2⟩ : S50)] from recs_C [(⟨r.f0, r.f1, r.f2⟩ : S50)] (by simp) (heap_alloc_new _ _)); have hbz := HS9.out.trans ((hb6.trans (hba.mono hb6.size)).mono HS9.out.size); have HR8 := Lib.hid (Kd.R_below HR5.out hbz); have HB8 := Lib.hid (HWX.out.trans (hbz.mono HWX.out.size)); clear hba hb6 hbz)) | ((with_reducible refine gate_builtin (b := .append) (xs := #[.tmp 88, .tmp 93]) rfl ?_); (try (refine gate_guard (by rfl) ?_; dsimp only)); at_builtin; go_loud (refine Kd.R_append_rows k50 (w0 := w) w.heap.size rfl (.tmp 88) (.tmp 93) 24 50 (.agg #[(.int .i64 0), (.int .i64 0), (.string ⟨#[]⟩)]) 32 rfl Try.underlying24 info50 rfl (by decide) (by omega) (.slice A5 n5 c5) ol [(⟨r.f0, r.f1, r.f2⟩ : S50)] _ _ _ (fun _ => True) (fun _ => False) rfl rfl HR8.out HC8.out (fun _ _ h => by obtain rfl := k50_open h; exact k50_mkM _ _ _ _) (fun _ h => h.elim) (fun _ _ => trivial) HB8.out HB8.out.size ?aL ?_; (case aL => have h_ := HE5.out; first | omega | (simp; done) | (simp; omega)); intro v8 w8 hR8 hb8 hg8 hat8; obtain ⟨A9, c9, hv9, hc9, _⟩ := Kd.R_reads hR8; have hln : (ol ++ [(⟨r.f0, r.f1, r.f2⟩ : S50)]).length = n5 + 1 := (by have h_ := HE5.out; simp only [List.length_append, List.length_cons, List.length_nil]; omega); rw [hln] at hv9; subst hv9; have HR9 := Lib.hid hR8; have HB9 := Lib.hid hb8; clear hg8 hat8 hln hb8 hR8)))
              · go_roundg gk
                case measure => omega
                case rel =>
                  have h6 := HE6.out
                  have h7 := HE7.out
                  simp only [List.length_cons, List.length_nil] at h6 h7
                  exact ⟨la, y :: lb, ol ++ [(⟨r.f0, r.f1, r.f2⟩ : S50)], _, _, A9, _, _, c9, m6, m7 + 1, n5 + 1, rfl, rfl, rfl, by omega, by rw [List.length_cons]; omega, by simp [HE5.out], by omega, by omega, C_none (by omega) (by omega), HC7.out, HR9.out, HB9.out, by have h_ := HWK.out; rw [walk_l HQ1.out, HRR.out] at h_; rw [List.append_assoc]; exact h_, fun c hc => HRA.out c (List.mem_cons_of_mem _ hc), HRB.out, by omega, by omega⟩
              · go_roundg gk
                case measure => omega
                case rel =>
                  have h6 := HE6.out
                  have h7 := HE7.out
                  simp only [List.length_cons, List.length_nil] at h6 h7
                  exact ⟨la, y :: lb, ol ++ [(⟨r.f0, r.f1, r.f2⟩ : S50)], _, _, A9, _, _, c9, m6, m7 + 1, n5 + 1, rfl, rfl, rfl, by omega, by rw [List.length_cons]; omega, by simp [HE5.out], by omega, by omega, C_tail HC6.out hc6, HC7.out, HR9.out, HB9.out, by have h_ := HWK.out; rw [walk_l HQ1.out, HRR.out] at h_; rw [List.append_assoc]; exact h_, fun c hc => HRA.out c (List.mem_cons_of_mem _ hc), HRB.out, by omega, by omega⟩
            | false =>
              refine wp_region_held_drew (S := fun w_ => Below WX.heap.size WX w_) (by kernel_rfl) (below_drew (Below.refl _ _)) (fun hS_ => ?_)
              have hS : Below WX.heap.size WX _ := hS_
              clear hS_
              change wpAnyH _ _ _ _ _ 18 #[false, false, false, false, false, false, false, false, false, false, false, false, false, false, false, false, false, false] _ _
              refine takeE 0 (some 71) #[true, false, false, false, false, false, false, false, false, false, false, false, false, false, false, false, false, false] hS ?_
              refine doD (i := 1) (ls2 := #[true, true, false, false, false, false, false, false, false, false, false, false, false, false, false, false, false, false]) (by kernel_rfl) rfl (by kernel_rfl) (by kernel_rfl) (fun K hK => ?_)
              go_simp
              refine hK.out _ _ ?_ (fun hS_ => ?_)
              · show Below WX.heap.size WX _
                exact hS
              clear hK K hS
              have hS : Below WX.heap.size WX _ := hS_
              clear hS_
              refine takeE 2 (some 73) #[true, true, true, false, false, false, false, false, false, false, false, false, false, false, false, false, false, false] hS ?_
              refine takeE 3 (some 74) #[true, true, true, true, false, false, false, false, false, false, false, false, false, false, false, false, false, false] hS ?_
              refine takeE 4 (some 75) #[true, true, true, true, true, false, false, false, false, false, false, false, false, false, false, false, false, false] hS ?_
              refine doD (i := 5) (ls2 := #[true, true, true, true, true, true, false, false, false, false, false, false, false, false, false, false, false, false]) (by kernel_rfl) rfl (by kernel_rfl) (by kernel_rfl) (fun K hK => ?_)
              go_simp
              refine hK.out _ _ ?_ (fun hS_ => ?_)
              · show Below WX.heap.size WX _
                exact hS
              clear hK K hS
              have hS : Below WX.heap.size WX _ := hS_
              clear hS_
              refine takeE 6 (some 77) #[true, true, true, true, true, true, true, false, false, false, false, false, false, false, false, false, false, false] hS ?_
              refine takeE 7 (some 78) #[true, true, true, true, true, true, true, true, false, false, false, false, false, false, false, false, false, false] hS ?_
              refine takeE 8 (some 79) #[true, true, true, true, true, true, true, true, true, false, false, false, false, false, false, false, false, false] hS ?_
              refine takeE 9 (some 80) #[true, true, true, true, true, true, true, true, true, true, false, false, false, false, false, false, false, false] hS ?_
              refine takeE 10 (some 81) #[true, true, true, true, true, true, true, true, true, true, true, false, false, false, false, false, false, false] hS ?_ (hy := fun w_ hS_ => by (replace hS_ : Below WX.heap.size WX w_ := hS_); have x0_ := below_cell hS_ HX0.out; have x1_ := below_cell hS_ HX1.out; have x2_ := below_cell hS_ HX2.out; have x3_ := below_cell hS_ HX3.out; have x4_ := below_cell hS_ HX4.out; have x5_ := below_cell hS_ HX5.out; have x6_ := below_cell hS_ HX6.out; have x7_ := below_cell hS_ HX7.out; have x8_ := below_cell hS_ HX8.out; have x9_ := below_cell hS_ HX9.out; have x10_ := below_cell hS_ HX10.out; have x11_ := below_cell hS_ HX11.out; go_simp <;> with_reducible rfl)
              refine takeE 11 (some 82) #[true, true, true, true, true, true, true, true, true, true, true, true, false, false, false, false, false, false] hS ?_
              refine takeE 12 (some 83) #[true, true, true, true, true, true, true, true, true, true, true, true, true, false, false, false, false, false] hS ?_
              refine takeE 13 (some 84) #[true, true, true, true, true, true, true, true, true, true, true, true, true, true, false, false, false, false] hS ?_ (hy := fun w_ hS_ => by (replace hS_ : Below WX.heap.size WX w_ := hS_); have x0_ := below_cell hS_ HY0.out; have x1_ := below_cell hS_ HY1.out; have x2_ := below_cell hS_ HY2.out; have x3_ := below_cell hS_ HY3.out; have x4_ := below_cell hS_ HY4.out; have x5_ := below_cell hS_ HY5.out; have x6_ := below_cell hS_ HY6.out; have x7_ := below_cell hS_ HY7.out; have x8_ := below_cell hS_ HY8.out; have x9_ := below_cell hS_ HY9.out; have x10_ := below_cell hS_ HY10.out; have x11_ := below_cell hS_ HY11.out; go_simp <;> with_reducible rfl)
              refine doD (i := 14) (ls2 := #[true, true, true, true, true, true, true, true, true, true, true, true, true, true, true, false, false, false]) (by kernel_rfl) rfl (by kernel_rfl) (by kernel_rfl) (fun K hK => ?_)
              go_simp
              go_wp2_with (first | (go_at_call 61; go_loud ((with_reducible refine (HAXY.out _).mono ?_); rintro e w3 ⟨rfl, hb3⟩)))
              refine hK.out _ _ ?_ (fun hS_ => ?_)
              · show Below WX.heap.size WX _
                exact hS.trans (hb3.mono hS.size)
              clear hK K hS hb3
              have hS : Below WX.heap.size WX _ := hS_
              clear hS_
              refine takeE 15 (some 86) #[true, true, true, true, true, true, true, true, true, true, true, true, true, true, true, true, false, false] hS ?_
              refine takeE 16 (some 87) #[true, true, true, true, true, true, true, true, true, true, true, true, true, true, true, true, true, false] hS ?_
              refine takeE 17 (some 70) #[true, true, true, true, true, true, true, true, true, true, true, true, true, true, true, true, true, true] hS ?_
              refine wpAnyH_done (by kernel_rfl) ?_ _
              try go_simp
              have HS9 := Lib.hid hS
              clear hS
              go_wp2
              cases q2 with
              | true =>
                refine wp_region_held_drew (S := fun w_ => Below w3.heap.size w3 w_) (by kernel_rfl) (below_drew (Below.refl _ _)) (fun hS_ => ?_)
                have hS : Below w3.heap.size w3 _ := hS_
                clear hS_
                change wpAnyH _ _ _ _ _ 13 #[false, false, false, false, false, false, false, false, false, false, false, false, false] _ _
                refine takeE 0 (some 98) #[true, false, false, false, false, false, false, false, false, false, false, false, false] hS ?_
                refine doD (i := 1) (ls2 := #[true, true, false, false, false, false, false, false, false, false, false, false, false]) (by kernel_rfl) rfl (by kernel_rfl) (by kernel_rfl) (fun K hK => ?_)
                go_simp
                refine hK.out _ _ ?_ (fun hS_ => ?_)
                · show Below w3.heap.size w3 _
                  exact hS
                clear hK K hS
                have hS : Below w3.heap.size w3 _ := hS_
                clear hS_
                refine takeE 2 (some 100) #[true, true, true, false, false, false, false, false, false, false, false, false, false] hS ?_
                refine takeE 3 (some 101) #[true, true, true, true, false, false, false, false, false, false, false, false, false] hS ?_
                refine takeE 4 (some 102) #[true, true, true, true, true, false, false, false, false, false, false, false, false] hS ?_
                refine takeE 5 (some 103) #[true, true, true, true, true, true, false, false, false, false, false, false, false] hS ?_
                refine takeE 6 (some 104) #[true, true, true, true, true, true, true, false, false, false, false, false, false] hS ?_ (hy := fun w_ hS_ => by (replace hS_ : Below w3.heap.size w3 w_ := hS_); have x0_ := below_cell (Below.trans HS9.out (hS_.mono HS9.out.size)) HY0.out; have x1_ := below_cell (Below.trans HS9.out (hS_.mono HS9.out.size)) HY1.out; have x2_ := below_cell (Below.trans HS9.out (hS_.mono HS9.out.size)) HY2.out; have x3_ := below_cell (Below.trans HS9.out (hS_.mono HS9.out.size)) HY3.out; have x4_ := below_cell (Below.trans HS9.out (hS_.mono HS9.out.size)) HY4.out; have x5_ := below_cell (Below.trans HS9.out (hS_.mono HS9.out.size)) HY5.out; have x6_ := below_cell (Below.trans HS9.out (hS_.mono HS9.out.size)) HY6.out; have x7_ := below_cell (Below.trans HS9.out (hS_.mono HS9.out.size)) HY7.out; have x8_ := below_cell (Below.trans HS9.out (hS_.mono HS9.out.size)) HY8.out; have x9_ := below_cell (Below.trans HS9.out (hS_.mono HS9.out.size)) HY9.out; have x10_ := below_cell (Below.trans HS9.out (hS_.mono HS9.out.size)) HY10.out; have x11_ := below_cell (Below.trans HS9.out (hS_.mono HS9.out.size)) HY11.out; go_simp <;> with_reducible rfl)
                refine takeE 7 (some 105) #[true, true, true, true, true, true, true, true, false, false, false, false, false] hS ?_
                refine takeE 8 (some 106) #[true, true, true, true, true, true, true, true, true, false, false, false, false] hS ?_
                refine takeE 9 (some 107) #[true, true, true, true, true, true, true, true, true, true, false, false, false] hS ?_ (hy := fun w_ hS_ => by (replace hS_ : Below w3.heap.size w3 w_ := hS_); have x0_ := below_cell (Below.trans HS9.out (hS_.mono HS9.out.size)) HX0.out; have x1_ := below_cell (Below.trans HS9.out (hS_.mono HS9.out.size)) HX1.out; have x2_ := below_cell (Below.trans HS9.out (hS_.mono HS9.out.size)) HX2.out; have x3_ := below_cell (Below.trans HS9.out (hS_.mono HS9.out.size)) HX3.out; have x4_ := below_cell (Below.trans HS9.out (hS_.mono HS9.out.size)) HX4.out; have x5_ := below_cell (Below.trans HS9.out (hS_.mono HS9.out.size)) HX5.out; have x6_ := below_cell (Below.trans HS9.out (hS_.mono HS9.out.size)) HX6.out; have x7_ := below_cell (Below.trans HS9.out (hS_.mono HS9.out.size)) HX7.out; have x8_ := below_cell (Below.trans HS9.out (hS_.mono HS9.out.size)) HX8.out; have x9_ := below_cell (Below.trans HS9.out (hS_.mono HS9.out.size)) HX9.out; have x10_ := below_cell (Below.trans HS9.out (hS_.mono HS9.out.size)) HX10.out; have x11_ := below_cell (Below.trans HS9.out (hS_.mono HS9.out.size)) HX11.out; go_simp <;> with_reducible rfl)
                refine doD (i := 10) (ls2 := #[true, true, true, true, true, true, true, true, true, true, true, false, false]) (by kernel_rfl) rfl (by kernel_rfl) (by kernel_rfl) (fun K hK => ?_)
                go_simp
                go_wp2_with (first | (go_at_call 61; go_loud ((with_reducible refine (HAYX.out _).mono ?_); rintro e w4 ⟨rfl, hb4⟩)))
                refine hK.out _ _ ?_ (fun hS_ => ?_)
                · show Below w3.heap.size w3 _
                  exact hS.trans (hb4.mono hS.size)
                clear hK K hS hb4
                have hS : Below w3.heap.size w3 _ := hS_
                clear hS_
                refine takeE 11 (some 109) #[true, true, true, true, true, true, true, true, true, true, true, true, false] hS ?_
                refine takeE 12 (some 97) #[true, true, true, true, true, true, true, true, true, true, true, true, true] hS ?_
                refine wpAnyH_done (by kernel_rfl) ?_ _
                try go_simp
                have HS12 := Lib.hid (Below.trans HS9.out (hS.mono HS9.out.size))
                clear hS
                obtain ⟨r, hr⟩ : ∃ r, tellH y = r := ⟨_, rfl⟩
                have htell := fun w => toldH_calls y (HRB.out y List.mem_cons_self) w
                rw [hr] at htell
                have HTELL := Lib.hid htell
                have HRR := Lib.hid hr
                clear htell hr
                have x0 := below_cell HS12.out HY0.out
                have x1 := below_cell HS12.out HY1.out
                have x2 := below_cell HS12.out HY2.out
                have x3 := below_cell HS12.out HY3.out
                have x4 := below_cell HS12.out HY4.out
                have x5 := below_cell HS12.out HY5.out
                have x6 := below_cell HS12.out HY6.out
                have x7 := below_cell HS12.out HY7.out
                have x8 := below_cell HS12.out HY8.out
                have x9 := below_cell HS12.out HY9.out
                have x10 := below_cell HS12.out HY10.out
                have x11 := below_cell HS12.out HY11.out
                have hl5 : ol.length ≤ 1000 := by have := HE5.out; omega
                go_wp2_with (first | (go_at_call 62; go_loud ((with_reducible refine (HTELL.out _).mono ?_); rintro e w6 ⟨rfl, hb6⟩; have hba := (Below.refl w6.heap.size w6).alloc (Nat.le_refl _) (.cells #[.int .i64 r.f0, .int .i64 r.f1, .string r.f2] 50); have HC8 := Lib.hid (show k50.C (w6.alloc (.cells #[.int .i64 r.f0, .int .i64 r.f1, .string r.f2] 50)) (some ⟨w6.heap.size, 0, none⟩) 1 [(⟨r.f0, r.f1, r.f2⟩ : S50)] from recs_C [(⟨r.f0, r.f1, r.f2⟩ : S50)] (by simp) (heap_alloc_new _ _)); have hbz := HS12.out.trans ((hb6.trans (hba.mono hb6.size)).mono HS12.out.size); have HR8 := Lib.hid (Kd.R_below HR5.out hbz); have HB8 := Lib.hid (HWX.out.trans (hbz.mono HWX.out.size)); clear hba hb6 hbz)) | ((with_reducible refine gate_builtin (b := .append) (xs := #[.tmp 110, .tmp 115]) rfl ?_); (try (refine gate_guard (by rfl) ?_; dsimp only)); at_builtin; go_loud (refine Kd.R_append_rows k50 (w0 := w) w.heap.size rfl (.tmp 110) (.tmp 115) 24 50 (.agg #[(.int .i64 0), (.int .i64 0), (.string ⟨#[]⟩)]) 32 rfl Try.underlying24 info50 rfl (by decide) (by omega) (.slice A5 n5 c5) ol [(⟨r.f0, r.f1, r.f2⟩ : S50)] _ _ _ (fun _ => True) (fun _ => False) rfl rfl HR8.out HC8.out (fun _ _ h => by obtain rfl := k50_open h; exact k50_mkM _ _ _ _) (fun _ h => h.elim) (fun _ _ => trivial) HB8.out HB8.out.size ?aL ?_; (case aL => have h_ := HE5.out; first | omega | (simp; done) | (simp; omega)); intro v8 w8 hR8 hb8 hg8 hat8; obtain ⟨A9, c9, hv9, hc9, _⟩ := Kd.R_reads hR8; have hln : (ol ++ [(⟨r.f0, r.f1, r.f2⟩ : S50)]).length = n5 + 1 := (by have h_ := HE5.out; simp only [List.length_append, List.length_cons, List.length_nil]; omega); rw [hln] at hv9; subst hv9; have HR9 := Lib.hid hR8; have HB9 := Lib.hid hb8; clear hg8 hat8 hln hb8 hR8)))
                · go_roundg gk
                  case measure => omega
                  case rel =>
                    have h6 := HE6.out
                    have h7 := HE7.out
                    simp only [List.length_cons, List.length_nil] at h6 h7
                    exact ⟨x :: la, lb, ol ++ [(⟨r.f0, r.f1, r.f2⟩ : S50)], _, _, A9, _, _, c9, m6 + 1, m7, n5 + 1, rfl, rfl, rfl, by rw [List.length_cons]; omega, by omega, by simp [HE5.out], by omega, by omega, HC6.out, C_none (by omega) (by omega), HR9.out, HB9.out, by have h_ := HWK.out; rw [walk_r HQ1.out HQ2.out, HRR.out] at h_; rw [List.append_assoc]; exact h_, HRA.out, fun c hc => HRB.out c (List.mem_cons_of_mem _ hc), by omega, by omega⟩
                · go_roundg gk
                  case measure => omega
                  case rel =>
                    have h6 := HE6.out
                    have h7 := HE7.out
                    simp only [List.length_cons, List.length_nil] at h6 h7
                    exact ⟨x :: la, lb, ol ++ [(⟨r.f0, r.f1, r.f2⟩ : S50)], _, _, A9, _, _, c9, m6 + 1, m7, n5 + 1, rfl, rfl, rfl, by rw [List.length_cons]; omega, by omega, by simp [HE5.out], by omega, by omega, HC6.out, C_tail HC7.out hc7, HR9.out, HB9.out, by have h_ := HWK.out; rw [walk_r HQ1.out HQ2.out, HRR.out] at h_; rw [List.append_assoc]; exact h_, HRA.out, fun c hc => HRB.out c (List.mem_cons_of_mem _ hc), by omega, by omega⟩
              | false =>
                refine wp_region_held_drew (S := fun w_ => Below w3.heap.size w3 w_) (by kernel_rfl) (below_drew (Below.refl _ _)) (fun hS_ => ?_)
                have hS : Below w3.heap.size w3 _ := hS_
                clear hS_
                change wpAnyH _ _ _ _ _ 13 #[false, false, false, false, false, false, false, false, false, false, false, false, false] _ _
                refine takeE 0 (some 98) #[true, false, false, false, false, false, false, false, false, false, false, false, false] hS ?_
                refine doD (i := 1) (ls2 := #[true, true, false, false, false, false, false, false, false, false, false, false, false]) (by kernel_rfl) rfl (by kernel_rfl) (by kernel_rfl) (fun K hK => ?_)
                go_simp
                refine hK.out _ _ ?_ (fun hS_ => ?_)
                · show Below w3.heap.size w3 _
                  exact hS
                clear hK K hS
                have hS : Below w3.heap.size w3 _ := hS_
                clear hS_
                refine takeE 2 (some 100) #[true, true, true, false, false, false, false, false, false, false, false, false, false] hS ?_
                refine takeE 3 (some 101) #[true, true, true, true, false, false, false, false, false, false, false, false, false] hS ?_
                refine takeE 4 (some 102) #[true, true, true, true, true, false, false, false, false, false, false, false, false] hS ?_
                refine takeE 5 (some 103) #[true, true, true, true, true, true, false, false, false, false, false, false, false] hS ?_
                refine takeE 6 (some 104) #[true, true, true, true, true, true, true, false, false, false, false, false, false] hS ?_ (hy := fun w_ hS_ => by (replace hS_ : Below w3.heap.size w3 w_ := hS_); have x0_ := below_cell (Below.trans HS9.out (hS_.mono HS9.out.size)) HY0.out; have x1_ := below_cell (Below.trans HS9.out (hS_.mono HS9.out.size)) HY1.out; have x2_ := below_cell (Below.trans HS9.out (hS_.mono HS9.out.size)) HY2.out; have x3_ := below_cell (Below.trans HS9.out (hS_.mono HS9.out.size)) HY3.out; have x4_ := below_cell (Below.trans HS9.out (hS_.mono HS9.out.size)) HY4.out; have x5_ := below_cell (Below.trans HS9.out (hS_.mono HS9.out.size)) HY5.out; have x6_ := below_cell (Below.trans HS9.out (hS_.mono HS9.out.size)) HY6.out; have x7_ := below_cell (Below.trans HS9.out (hS_.mono HS9.out.size)) HY7.out; have x8_ := below_cell (Below.trans HS9.out (hS_.mono HS9.out.size)) HY8.out; have x9_ := below_cell (Below.trans HS9.out (hS_.mono HS9.out.size)) HY9.out; have x10_ := below_cell (Below.trans HS9.out (hS_.mono HS9.out.size)) HY10.out; have x11_ := below_cell (Below.trans HS9.out (hS_.mono HS9.out.size)) HY11.out; go_simp <;> with_reducible rfl)
                refine takeE 7 (some 105) #[true, true, true, true, true, true, true, true, false, false, false, false, false] hS ?_
                refine takeE 8 (some 106) #[true, true, true, true, true, true, true, true, true, false, false, false, false] hS ?_
                refine takeE 9 (some 107) #[true, true, true, true, true, true, true, true, true, true, false, false, false] hS ?_ (hy := fun w_ hS_ => by (replace hS_ : Below w3.heap.size w3 w_ := hS_); have x0_ := below_cell (Below.trans HS9.out (hS_.mono HS9.out.size)) HX0.out; have x1_ := below_cell (Below.trans HS9.out (hS_.mono HS9.out.size)) HX1.out; have x2_ := below_cell (Below.trans HS9.out (hS_.mono HS9.out.size)) HX2.out; have x3_ := below_cell (Below.trans HS9.out (hS_.mono HS9.out.size)) HX3.out; have x4_ := below_cell (Below.trans HS9.out (hS_.mono HS9.out.size)) HX4.out; have x5_ := below_cell (Below.trans HS9.out (hS_.mono HS9.out.size)) HX5.out; have x6_ := below_cell (Below.trans HS9.out (hS_.mono HS9.out.size)) HX6.out; have x7_ := below_cell (Below.trans HS9.out (hS_.mono HS9.out.size)) HX7.out; have x8_ := below_cell (Below.trans HS9.out (hS_.mono HS9.out.size)) HX8.out; have x9_ := below_cell (Below.trans HS9.out (hS_.mono HS9.out.size)) HX9.out; have x10_ := below_cell (Below.trans HS9.out (hS_.mono HS9.out.size)) HX10.out; have x11_ := below_cell (Below.trans HS9.out (hS_.mono HS9.out.size)) HX11.out; go_simp <;> with_reducible rfl)
                refine doD (i := 10) (ls2 := #[true, true, true, true, true, true, true, true, true, true, true, false, false]) (by kernel_rfl) rfl (by kernel_rfl) (by kernel_rfl) (fun K hK => ?_)
                go_simp
                go_wp2_with (first | (go_at_call 61; go_loud ((with_reducible refine (HAYX.out _).mono ?_); rintro e w4 ⟨rfl, hb4⟩)))
                refine hK.out _ _ ?_ (fun hS_ => ?_)
                · show Below w3.heap.size w3 _
                  exact hS.trans (hb4.mono hS.size)
                clear hK K hS hb4
                have hS : Below w3.heap.size w3 _ := hS_
                clear hS_
                refine takeE 11 (some 109) #[true, true, true, true, true, true, true, true, true, true, true, true, false] hS ?_
                refine takeE 12 (some 97) #[true, true, true, true, true, true, true, true, true, true, true, true, true] hS ?_
                refine wpAnyH_done (by kernel_rfl) ?_ _
                try go_simp
                have HS12 := Lib.hid (Below.trans HS9.out (hS.mono HS9.out.size))
                clear hS
                go_wp2
                refine wp_region_held_drew (S := fun w_ => Below w4.heap.size w4 w_) (by kernel_rfl) (below_drew (Below.refl _ _)) (fun hS_ => ?_)
                have hS : Below w4.heap.size w4 _ := hS_
                clear hS_
                change wpAnyH _ _ _ _ _ 7 #[false, false, false, false, false, false, false] _ _
                refine takeE 0 (some 43) #[true, false, false, false, false, false, false] hS ?_
                refine takeE 1 (some 44) #[true, true, false, false, false, false, false] hS ?_
                refine takeE 2 (some 45) #[true, true, true, false, false, false, false] hS ?_ (hy := fun w_ hS_ => by (replace hS_ : Below w4.heap.size w4 w_ := hS_); have x0_ := below_cell (Below.trans HS12.out (hS_.mono HS12.out.size)) HX0.out; have x1_ := below_cell (Below.trans HS12.out (hS_.mono HS12.out.size)) HX1.out; have x2_ := below_cell (Below.trans HS12.out (hS_.mono HS12.out.size)) HX2.out; have x3_ := below_cell (Below.trans HS12.out (hS_.mono HS12.out.size)) HX3.out; have x4_ := below_cell (Below.trans HS12.out (hS_.mono HS12.out.size)) HX4.out; have x5_ := below_cell (Below.trans HS12.out (hS_.mono HS12.out.size)) HX5.out; have x6_ := below_cell (Below.trans HS12.out (hS_.mono HS12.out.size)) HX6.out; have x7_ := below_cell (Below.trans HS12.out (hS_.mono HS12.out.size)) HX7.out; have x8_ := below_cell (Below.trans HS12.out (hS_.mono HS12.out.size)) HX8.out; have x9_ := below_cell (Below.trans HS12.out (hS_.mono HS12.out.size)) HX9.out; have x10_ := below_cell (Below.trans HS12.out (hS_.mono HS12.out.size)) HX10.out; have x11_ := below_cell (Below.trans HS12.out (hS_.mono HS12.out.size)) HX11.out; go_simp <;> with_reducible rfl)
                refine takeE 3 (some 46) #[true, true, true, true, false, false, false] hS ?_
                refine takeE 4 (some 47) #[true, true, true, true, true, false, false] hS ?_
                refine takeE 5 (some 48) #[true, true, true, true, true, true, false] hS ?_ (hy := fun w_ hS_ => by (replace hS_ : Below w4.heap.size w4 w_ := hS_); have x0_ := below_cell (Below.trans HS12.out (hS_.mono HS12.out.size)) HY0.out; have x1_ := below_cell (Below.trans HS12.out (hS_.mono HS12.out.size)) HY1.out; have x2_ := below_cell (Below.trans HS12.out (hS_.mono HS12.out.size)) HY2.out; have x3_ := below_cell (Below.trans HS12.out (hS_.mono HS12.out.size)) HY3.out; have x4_ := below_cell (Below.trans HS12.out (hS_.mono HS12.out.size)) HY4.out; have x5_ := below_cell (Below.trans HS12.out (hS_.mono HS12.out.size)) HY5.out; have x6_ := below_cell (Below.trans HS12.out (hS_.mono HS12.out.size)) HY6.out; have x7_ := below_cell (Below.trans HS12.out (hS_.mono HS12.out.size)) HY7.out; have x8_ := below_cell (Below.trans HS12.out (hS_.mono HS12.out.size)) HY8.out; have x9_ := below_cell (Below.trans HS12.out (hS_.mono HS12.out.size)) HY9.out; have x10_ := below_cell (Below.trans HS12.out (hS_.mono HS12.out.size)) HY10.out; have x11_ := below_cell (Below.trans HS12.out (hS_.mono HS12.out.size)) HY11.out; go_simp <;> with_reducible rfl)
                refine takeE 6 (some 49) #[true, true, true, true, true, true, true] hS ?_ (hy := fun w_ hS_ => by have eq_ := HEQ.out; go_simp <;> with_reducible rfl)
                refine wpAnyH_done (by kernel_rfl) ?_ _
                try go_simp
                have HS5 := Lib.hid (Below.trans HS12.out (hS.mono HS12.out.size))
                clear hS
                cases q3 with
                | true =>
                  go_wp2
                  refine wp_region_held_drew (S := fun w_ => Below w4.drew.heap.size w4.drew w_) (by kernel_rfl) (below_drew (Below.refl _ _)) (fun hS_ => ?_)
                  have hS : Below w4.drew.heap.size w4.drew _ := hS_
                  clear hS_
                  change wpAnyH _ _ _ _ _ 6 #[false, false, false, false, false, false] _ _
                  refine takeE 0 (some 57) #[true, false, false, false, false, false] hS ?_
                  refine takeE 1 (some 58) #[true, true, false, false, false, false] hS ?_ (hy := fun w_ hS_ => by have b_ : (1 : Int) ≤ (m6 : Int) + 1 := (by omega); go_simp <;> with_reducible rfl)
                  refine takeE 2 (some 59) #[true, true, true, false, false, false] hS ?_
                  refine takeE 3 (some 60) #[true, true, true, true, false, false] hS ?_ (hy := fun w_ hS_ => by have b_ : (1 : Int) ≤ (m7 : Int) + 1 := (by omega); go_simp <;> with_reducible rfl)
                  refine takeE 4 (some 6) #[true, true, true, true, true, false] hS ?_
                  refine takeE 5 (some 7) #[true, true, true, true, true, true] hS ?_
                  refine wpAnyH_done (by kernel_rfl) ?_ _
                  try go_simp
                  have HS7 := Lib.hid hS
                  clear hS
                  go_wp2
                  · go_roundg gk
                    case measure => omega
                    case rel =>
                      have h6 := HE6.out
                      have h7 := HE7.out
                      simp only [List.length_cons, List.length_nil] at h6 h7
                      exact ⟨la, lb, ol, _, _, A5, _, _, c5, m6, m7, n5, rfl, rfl, rfl, by omega, by omega, HE5.out, by omega, by omega, C_none (by omega) (by omega), C_none (by omega) (by omega), Kd.R_below (Kd.R_below HR5.out HS5.out) HS7.out, (HWX.out.trans (HS5.out.mono HWX.out.size)).trans (HS7.out.mono (HWX.out.trans (HS5.out.mono HWX.out.size)).size), by have h_ := HWK.out; rw [walk_e HQ1.out HQ2.out HQ3.out] at h_; exact h_, fun c hc => HRA.out c (List.mem_cons_of_mem _ hc), fun c hc => HRB.out c (List.mem_cons_of_mem _ hc), by omega, by omega⟩
                  · go_roundg gk
                    case measure => omega
                    case rel =>
                      have h6 := HE6.out
                      have h7 := HE7.out
                      simp only [List.length_cons, List.length_nil] at h6 h7
                      exact ⟨la, lb, ol, _, _, A5, _, _, c5, m6, m7, n5, rfl, rfl, rfl, by omega, by omega, HE5.out, by omega, by omega, C_none (by omega) (by omega), C_tail HC7.out hc7, Kd.R_below (Kd.R_below HR5.out HS5.out) HS7.out, (HWX.out.trans (HS5.out.mono HWX.out.size)).trans (HS7.out.mono (HWX.out.trans (HS5.out.mono HWX.out.size)).size), by have h_ := HWK.out; rw [walk_e HQ1.out HQ2.out HQ3.out] at h_; exact h_, fun c hc => HRA.out c (List.mem_cons_of_mem _ hc), fun c hc => HRB.out c (List.mem_cons_of_mem _ hc), by omega, by omega⟩
                  · go_roundg gk
                    case measure => omega
                    case rel =>
                      have h6 := HE6.out
                      have h7 := HE7.out
                      simp only [List.length_cons, List.length_nil] at h6 h7
                      exact ⟨la, lb, ol, _, _, A5, _, _, c5, m6, m7, n5, rfl, rfl, rfl, by omega, by omega, HE5.out, by omega, by omega, C_tail HC6.out hc6, C_none (by omega) (by omega), Kd.R_below (Kd.R_below HR5.out HS5.out) HS7.out, (HWX.out.trans (HS5.out.mono HWX.out.size)).trans (HS7.out.mono (HWX.out.trans (HS5.out.mono HWX.out.size)).size), by have h_ := HWK.out; rw [walk_e HQ1.out HQ2.out HQ3.out] at h_; exact h_, fun c hc => HRA.out c (List.mem_cons_of_mem _ hc), fun c hc => HRB.out c (List.mem_cons_of_mem _ hc), by omega, by omega⟩
                  · go_roundg gk
                    case measure => omega
                    case rel =>
                      have h6 := HE6.out
                      have h7 := HE7.out
                      simp only [List.length_cons, List.length_nil] at h6 h7
                      exact ⟨la, lb, ol, _, _, A5, _, _, c5, m6, m7, n5, rfl, rfl, rfl, by omega, by omega, HE5.out, by omega, by omega, C_tail HC6.out hc6, C_tail HC7.out hc7, Kd.R_below (Kd.R_below HR5.out HS5.out) HS7.out, (HWX.out.trans (HS5.out.mono HWX.out.size)).trans (HS7.out.mono (HWX.out.trans (HS5.out.mono HWX.out.size)).size), by have h_ := HWK.out; rw [walk_e HQ1.out HQ2.out HQ3.out] at h_; exact h_, fun c hc => HRA.out c (List.mem_cons_of_mem _ hc), fun c hc => HRB.out c (List.mem_cons_of_mem _ hc), by omega, by omega⟩
                | false =>
                  obtain ⟨r, hr⟩ : ∃ r, tellH y = r := ⟨_, rfl⟩
                  have htell := fun w => toldH_calls y (HRB.out y List.mem_cons_self) w
                  rw [hr] at htell
                  have HTELL := Lib.hid htell
                  have HRR := Lib.hid hr
                  clear htell hr
                  have x0 := below_cell HS5.out HY0.out
                  have x1 := below_cell HS5.out HY1.out
                  have x2 := below_cell HS5.out HY2.out
                  have x3 := below_cell HS5.out HY3.out
                  have x4 := below_cell HS5.out HY4.out
                  have x5 := below_cell HS5.out HY5.out
                  have x6 := below_cell HS5.out HY6.out
                  have x7 := below_cell HS5.out HY7.out
                  have x8 := below_cell HS5.out HY8.out
                  have x9 := below_cell HS5.out HY9.out
                  have x10 := below_cell HS5.out HY10.out
                  have x11 := below_cell HS5.out HY11.out
                  have hl5 : ol.length ≤ 1000 := by have := HE5.out; omega
                  go_wp2_with (first | (go_at_call 62; go_loud ((with_reducible refine (HTELL.out _).mono ?_); rintro e w6 ⟨rfl, hb6⟩; have hba := (Below.refl w6.heap.size w6).alloc (Nat.le_refl _) (.cells #[.int .i64 r.f0, .int .i64 r.f1, .string r.f2] 50); have HC8 := Lib.hid (show k50.C (w6.alloc (.cells #[.int .i64 r.f0, .int .i64 r.f1, .string r.f2] 50)) (some ⟨w6.heap.size, 0, none⟩) 1 [(⟨r.f0, r.f1, r.f2⟩ : S50)] from recs_C [(⟨r.f0, r.f1, r.f2⟩ : S50)] (by simp) (heap_alloc_new _ _)); have hbz := HS5.out.trans ((hb6.trans (hba.mono hb6.size)).mono HS5.out.size); have HR8 := Lib.hid (Kd.R_below HR5.out hbz); have HB8 := Lib.hid (HWX.out.trans (hbz.mono HWX.out.size)); clear hba hb6 hbz)) | ((with_reducible refine gate_builtin (b := .append) (xs := #[.tmp 50, .tmp 55]) rfl ?_); (try (refine gate_guard (by rfl) ?_; dsimp only)); at_builtin; go_loud (refine Kd.R_append_rows k50 (w0 := w) w.heap.size rfl (.tmp 50) (.tmp 55) 24 50 (.agg #[(.int .i64 0), (.int .i64 0), (.string ⟨#[]⟩)]) 32 rfl Try.underlying24 info50 rfl (by decide) (by omega) (.slice A5 n5 c5) ol [(⟨r.f0, r.f1, r.f2⟩ : S50)] _ _ _ (fun _ => True) (fun _ => False) rfl rfl HR8.out HC8.out (fun _ _ h => by obtain rfl := k50_open h; exact k50_mkM _ _ _ _) (fun _ h => h.elim) (fun _ _ => trivial) HB8.out HB8.out.size ?aL ?_; (case aL => have h_ := HE5.out; first | omega | (simp; done) | (simp; omega)); intro v8 w8 hR8 hb8 hg8 hat8; obtain ⟨A9, c9, hv9, hc9, _⟩ := Kd.R_reads hR8; have hln : (ol ++ [(⟨r.f0, r.f1, r.f2⟩ : S50)]).length = n5 + 1 := (by have h_ := HE5.out; simp only [List.length_append, List.length_cons, List.length_nil]; omega); rw [hln] at hv9; subst hv9; have HR9 := Lib.hid hR8; have HB9 := Lib.hid hb8; clear hg8 hat8 hln hb8 hR8)))
                  refine wp_region_held_drew (S := fun w_ => Below w8.heap.size w8 w_) (by kernel_rfl) (below_drew (Below.refl _ _)) (fun hS_ => ?_)
                  have hS : Below w8.heap.size w8 _ := hS_
                  clear hS_
                  change wpAnyH _ _ _ _ _ 6 #[false, false, false, false, false, false] _ _
                  refine takeE 0 (some 57) #[true, false, false, false, false, false] hS ?_
                  refine takeE 1 (some 58) #[true, true, false, false, false, false] hS ?_ (hy := fun w_ hS_ => by have b_ : (1 : Int) ≤ (m6 : Int) + 1 := (by omega); go_simp <;> with_reducible rfl)
                  refine takeE 2 (some 59) #[true, true, true, false, false, false] hS ?_
                  refine takeE 3 (some 60) #[true, true, true, true, false, false] hS ?_ (hy := fun w_ hS_ => by have b_ : (1 : Int) ≤ (m7 : Int) + 1 := (by omega); go_simp <;> with_reducible rfl)
                  refine takeE 4 (some 6) #[true, true, true, true, true, false] hS ?_
                  refine takeE 5 (some 7) #[true, true, true, true, true, true] hS ?_
                  refine wpAnyH_done (by kernel_rfl) ?_ _
                  try go_simp
                  have HS7 := Lib.hid hS
                  clear hS
                  go_wp2
                  · go_roundg gk
                    case measure => omega
                    case rel =>
                      have h6 := HE6.out
                      have h7 := HE7.out
                      simp only [List.length_cons, List.length_nil] at h6 h7
                      exact ⟨la, lb, ol ++ [(⟨r.f0, r.f1, r.f2⟩ : S50)], _, _, A9, _, _, c9, m6, m7, n5 + 1, rfl, rfl, rfl, by omega, by omega, by simp [HE5.out], by omega, by omega, C_none (by omega) (by omega), C_none (by omega) (by omega), Kd.R_below HR9.out HS7.out, HB9.out.trans (HS7.out.mono HB9.out.size), by have h_ := HWK.out; rw [walk_c HQ1.out HQ2.out HQ3.out, HRR.out] at h_; rw [List.append_assoc]; exact h_, fun c hc => HRA.out c (List.mem_cons_of_mem _ hc), fun c hc => HRB.out c (List.mem_cons_of_mem _ hc), by omega, by omega⟩
                  · go_roundg gk
                    case measure => omega
                    case rel =>
                      have h6 := HE6.out
                      have h7 := HE7.out
                      simp only [List.length_cons, List.length_nil] at h6 h7
                      exact ⟨la, lb, ol ++ [(⟨r.f0, r.f1, r.f2⟩ : S50)], _, _, A9, _, _, c9, m6, m7, n5 + 1, rfl, rfl, rfl, by omega, by omega, by simp [HE5.out], by omega, by omega, C_none (by omega) (by omega), C_tail HC7.out hc7, Kd.R_below HR9.out HS7.out, HB9.out.trans (HS7.out.mono HB9.out.size), by have h_ := HWK.out; rw [walk_c HQ1.out HQ2.out HQ3.out, HRR.out] at h_; rw [List.append_assoc]; exact h_, fun c hc => HRA.out c (List.mem_cons_of_mem _ hc), fun c hc => HRB.out c (List.mem_cons_of_mem _ hc), by omega, by omega⟩
                  · go_roundg gk
                    case measure => omega
                    case rel =>
                      have h6 := HE6.out
                      have h7 := HE7.out
                      simp only [List.length_cons, List.length_nil] at h6 h7
                      exact ⟨la, lb, ol ++ [(⟨r.f0, r.f1, r.f2⟩ : S50)], _, _, A9, _, _, c9, m6, m7, n5 + 1, rfl, rfl, rfl, by omega, by omega, by simp [HE5.out], by omega, by omega, C_tail HC6.out hc6, C_none (by omega) (by omega), Kd.R_below HR9.out HS7.out, HB9.out.trans (HS7.out.mono HB9.out.size), by have h_ := HWK.out; rw [walk_c HQ1.out HQ2.out HQ3.out, HRR.out] at h_; rw [List.append_assoc]; exact h_, fun c hc => HRA.out c (List.mem_cons_of_mem _ hc), fun c hc => HRB.out c (List.mem_cons_of_mem _ hc), by omega, by omega⟩
                  · go_roundg gk
                    case measure => omega
                    case rel =>
                      have h6 := HE6.out
                      have h7 := HE7.out
                      simp only [List.length_cons, List.length_nil] at h6 h7
                      exact ⟨la, lb, ol ++ [(⟨r.f0, r.f1, r.f2⟩ : S50)], _, _, A9, _, _, c9, m6, m7, n5 + 1, rfl, rfl, rfl, by omega, by omega, by simp [HE5.out], by omega, by omega, C_tail HC6.out hc6, C_tail HC7.out hc7, Kd.R_below HR9.out HS7.out, HB9.out.trans (HS7.out.mono HB9.out.size), by have h_ := HWK.out; rw [walk_c HQ1.out HQ2.out HQ3.out, HRR.out] at h_; rw [List.append_assoc]; exact h_, fun c hc => HRA.out c (List.mem_cons_of_mem _ hc), fun c hc => HRB.out c (List.mem_cons_of_mem _ hc), by omega, by omega⟩
end Go.Proofs.Ytgipepjpkmlmaaa.P
