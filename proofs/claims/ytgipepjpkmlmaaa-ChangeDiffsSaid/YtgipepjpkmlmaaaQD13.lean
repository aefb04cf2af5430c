import Derived.Test.YtgipepjpkmlmaaaQD1
import Derived.Test.YtgipepjpkmlmaaaQD2
import Derived.Test.YtgipepjpkmlmaaaQD3
import Derived.Test.YtgipepjpkmlmaaaQD4
import Derived.Test.YtgipepjpkmlmaaaQD5
import Derived.Test.YtgipepjpkmlmaaaQD6
import Derived.Test.YtgipepjpkmlmaaaQD7
import Derived.Test.YtgipepjpkmlmaaaQD8
import Derived.Test.YtgipepjpkmlmaaaQD9
import Derived.Test.YtgipepjpkmlmaaaQD10
import Derived.Test.YtgipepjpkmlmaaaQD11
namespace Go.Proofs.Ytgipepjpkmlmaaa.P
open Go.RowKit Go.Proofs.YtgipepjpkmlmaaaW.PrintWords Go.Proofs.YtgipepjpkmlmaaaW.PrintLast Go.Proofs.YtgipepjpkmlmaaaW.PrintMore
set_option linter.unusedVariables false
set_option linter.unusedSimpArgs false
attribute [local go_sem high] eqA46
set_option maxHeartbeats 16000000 in
set_option maxRecDepth 100000 in
theorem diffR_calls (a b : S28) (ha : stateR a) (hb : stateR b) (Aa Ab : Option Addr) (ca cb : Nat) (w : World) (hra : Kd.C k46 w Aa a.f4.length a.f4) (hca : a.f4.length ≤ ca) (hrb : Kd.C k46 w Ab b.f4.length b.f4) (hcb : b.f4.length ≤ cb) (hla : a.f4.length ≤ 400) (hlb : b.f4.length ≤ 400) :
    Calls Try.prog 34 #[.agg #[.int .i64 a.f0, .int .i64 a.f1, .int .i64 a.f2, .int .i64 a.f3, .slice Aa a.f4.length ca], .agg #[.int .i64 b.f0, .int .i64 b.f1, .int .i64 b.f2, .int .i64 b.f3, .slice Ab b.f4.length cb]] w fun e w' => ∃ v, e = .returned v ∧ Kd.R k50 50 w' w.heap.size (fun _ => True) v (diffP a b) ∧ Below w.heap.size w w' := by
  have hput : ∀ (A : Option Addr) (w : World), (Kd.int .i64).C w A 5 (headL b) → Calls Try.prog 63 #[.slice A 5 5] w fun e w' => e = .returned (.string (numsT (headL b))) ∧ Below w.heap.size w w' := fun A w h => allT_calls (headL b) (headL_R hb) (show (5:Nat) ≤ 1000 by decide) A 5 w h (Nat.le_refl _)
  have hrr : (headR b).f2 = numsT (headL b) := rfl
  have hr0 : headR b = ⟨0, 0, (headR b).f2⟩ := rfl
  rw [← hrr] at hput
  have HPUT := Lib.hid hput
  have HR0 := Lib.hid hr0
  clear hrr hput hr0
  obtain ⟨D, hD⟩ : ∃ D, diffP a b = D := ⟨_, rfl⟩
  rw [hD]
  have HD := Lib.hid (show headP a b ++ walkP a.f4 b.f4 = D from hD)
  clear hD
  obtain ⟨na, hna⟩ : ∃ na, a.f4.length = na := ⟨_, rfl⟩
  obtain ⟨nb, hnb⟩ : ∃ nb, b.f4.length = nb := ⟨_, rfl⟩
  rw [hna] at hra hla hca ⊢
  rw [hnb] at hrb hlb hcb ⊢
  have HNA := Lib.hid hna
  have HNB := Lib.hid hnb
  have HRA := Lib.hid hra
  have HRB := Lib.hid hrb
  have HSA := Lib.hid ha.cs
  have HSB := Lib.hid hb.cs
  obtain ⟨W2, hW2⟩ : ∃ W, W = (w.alloc (.cells #[.int .i64 a.f0, .int .i64 a.f1, .int .i64 a.f2, .int .i64 a.f3, .slice Aa na ca] 28)).alloc (.cells #[.int .i64 b.f0, .int .i64 b.f1, .int .i64 b.f2, .int .i64 b.f3, .slice Ab nb cb] 28) := ⟨_, rfl⟩
  have h0 : W2.heap[w.heap.size]? = some (.cells #[.int .i64 a.f0, .int .i64 a.f1, .int .i64 a.f2, .int .i64 a.f3, .slice Aa na ca] 28 (0, 0)) := by
    rw [hW2, Below.heap_alloc _ _ _ (by simp)]
    exact heap_alloc_new _ _
  have h1 : W2.heap[w.heap.size + 1]? = some (.cells #[.int .i64 b.f0, .int .i64 b.f1, .int .i64 b.f2, .int .i64 b.f3, .slice Ab nb cb] 28 (0, 0)) := by
    rw [hW2]
    have := heap_alloc_new (w.alloc (.cells #[.int .i64 a.f0, .int .i64 a.f1, .int .i64 a.f2, .int .i64 a.f3, .slice Aa na ca] 28)) (.cells #[.int .i64 b.f0, .int .i64 b.f1, .int .i64 b.f2, .int .i64 b.f3, .slice Ab nb cb] 28)
    simpa using this
  have hbw : Below w.heap.size w W2 := by rw [hW2]; exact below_alloc (below_alloc (Below.refl _ _) _) _
  have HB := Lib.hid hbw
  have HW2 := Lib.hid hW2
  have H0 := Lib.hid h0
  have H1 := Lib.hid h1
  clear hW2 h0 h1 hbw ha hb hra hrb hna hnb
  go_enter Try.func34, Try.ntmps34
  go_upto_region 2 with fail
  rw [← HW2.out]
  go_cut [33] from 8 to 33 (fun v33 wc => ∃ q, v33 = .bool (!q) ∧ q = sameN a b ∧ W2 = wc)
  case first =>
    have HSN := Lib.hid (show sameN a b = (a.f0 == b.f0 && (a.f1 == b.f1 && (a.f2 == b.f2 && (a.f3 == b.f3)))) from rfl)
    obtain ⟨q, hq⟩ : ∃ q, sameN a b = q := ⟨_, rfl⟩
    rw [hq] at HSN
    have HQ := Lib.hid hq
    clear hq
    have hsn := HSN.out
    have z0 : W2.cell? ⟨w.heap.size, 0, none⟩ = some (.int .i64 a.f0) := (blk_cell H0.out 0).trans rfl
    have y0 : W2.cell? ⟨w.heap.size + 1, 0, none⟩ = some (.int .i64 b.f0) := (blk_cell H1.out 0).trans rfl
    have z1 : W2.cell? ⟨w.heap.size, 1, none⟩ = some (.int .i64 a.f1) := (blk_cell H0.out 1).trans rfl
    have y1 : W2.cell? ⟨w.heap.size + 1, 1, none⟩ = some (.int .i64 b.f1) := (blk_cell H1.out 1).trans rfl
    have z2 : W2.cell? ⟨w.heap.size, 2, none⟩ = some (.int .i64 a.f2) := (blk_cell H0.out 2).trans rfl
    have y2 : W2.cell? ⟨w.heap.size + 1, 2, none⟩ = some (.int .i64 b.f2) := (blk_cell H1.out 2).trans rfl
    have z3 : W2.cell? ⟨w.heap.size, 3, none⟩ = some (.int .i64 a.f3) := (blk_cell H0.out 3).trans rfl
    have y3 : W2.cell? ⟨w.heap.size + 1, 3, none⟩ = some (.int .i64 b.f3) := (blk_cell H1.out 3).trans rfl
    by_cases e0 : a.f0 = b.f0
    rotate_left
    · have d0 : (a.f0 != b.f0) = true := bne_iff_ne.mpr e0
      obtain rfl : q = false := by rw [hsn, beq_eq_false_iff_ne.mpr e0]; rfl
      clear hsn
      go_wp2
      go_meet
      case rel => exact ⟨false, rfl, HQ.out.symm, rfl⟩
    have d0 : (a.f0 != b.f0) = false := bne_eq_false_iff_eq.mpr e0
    rw [beq_iff_eq.mpr e0, Bool.true_and] at hsn
    clear e0
    by_cases e1 : a.f1 = b.f1
    rotate_left
    · have d1 : (a.f1 != b.f1) = true := bne_iff_ne.mpr e1
      obtain rfl : q = false := by rw [hsn, beq_eq_false_iff_ne.mpr e1]; rfl
      clear hsn
      go_wp2
      go_meet
      case rel => exact ⟨false, rfl, HQ.out.symm, rfl⟩
    have d1 : (a.f1 != b.f1) = false := bne_eq_false_iff_eq.mpr e1
    rw [beq_iff_eq.mpr e1, Bool.true_and] at hsn
    clear e1
    by_cases e2 : a.f2 = b.f2
    rotate_left
    · have d2 : (a.f2 != b.f2) = true := bne_iff_ne.mpr e2
      obtain rfl : q = false := by rw [hsn, beq_eq_false_iff_ne.mpr e2]; rfl
      clear hsn
      go_wp2
      go_meet
      case rel => exact ⟨false, rfl, HQ.out.symm, rfl⟩
    have d2 : (a.f2 != b.f2) = false := bne_eq_false_iff_eq.mpr e2
    rw [beq_iff_eq.mpr e2, Bool.true_and] at hsn
    clear e2
    obtain ⟨r, hr⟩ : ∃ r, (a.f3 == b.f3) = r := ⟨_, rfl⟩
    rw [hr] at hsn
    subst hsn
    have d3 : (a.f3 != b.f3) = !q := by rw [bne, hr]
    clear hr
    go_wp2
    go_meet
    case rel => exact ⟨q, rfl, HQ.out.symm, rfl⟩
  case rest =>
    obtain ⟨q, rfl, hq, hw⟩ := hcut
    subst hw
    go_upto_if 33 with fail
    go_cut [5] from 34 to 47 (fun v5 wc => ∃ (A5 : Option Addr) (c5 : Nat), v5 = .slice A5 (headP a b).length c5 ∧ Kd.R k50 50 wc W2.heap.size (fun _ => True) (.slice A5 (headP a b).length c5) (headP a b) ∧ Below W2.heap.size W2 wc)
    case first =>
      cases q with
      | true =>
        have HQ := Lib.hid (show headP a b = [] from if_pos hq.symm)
        clear hq
        go_wp2
        go_meet
        case rel => exact ⟨none, 0, by rw [HQ.out]; rfl, by rw [HQ.out]; exact Kd.R_nil _ _ _ _ _, Below.refl _ _⟩
      | false =>
        have HQ := Lib.hid (show headP a b = [headR b] from if_neg (by rw [← hq]; exact Bool.false_ne_true))
        clear hq
        have y0 : W2.cell? ⟨w.heap.size + 1, 0, none⟩ = some (.int .i64 b.f0) := (blk_cell H1.out 0).trans rfl
        have y1 : W2.cell? ⟨w.heap.size + 1, 1, none⟩ = some (.int .i64 b.f1) := (blk_cell H1.out 1).trans rfl
        have y2 : W2.cell? ⟨w.heap.size + 1, 2, none⟩ = some (.int .i64 b.f2) := (blk_cell H1.out 2).trans rfl
        have y3 : W2.cell? ⟨w.heap.size + 1, 3, none⟩ = some (.int .i64 b.f3) := (blk_cell H1.out 3).trans rfl
        have hpt := HPUT.out
        have hr0 := HR0.out
        obtain ⟨T, hT⟩ : ∃ T, (headR b).f2 = T := ⟨_, rfl⟩
        rw [hT] at hpt hr0
        rw [hr0] at HQ
        have HPT := Lib.hid hpt
        clear hT hpt hr0
        go_wp2_with (first | (go_at_call 63; go_loud ((with_reducible refine (HPT.out _ _ (ints_C (headL b) (headL_len b) (heap_alloc_new _ _))).mono ?_); rintro e w3 ⟨rfl, hb3⟩; have hb3' : Below W2.heap.size W2 w3 := ((Below.refl _ _).alloc (Nat.le_refl _) _).trans (hb3.mono (by simp)); have hba := (Below.refl w3.heap.size w3).alloc (Nat.le_refl _) (.cells #[.int .i64 0, .int .i64 0, .string T] 50); have HC5 := Lib.hid (show k50.C (w3.alloc (.cells #[.int .i64 0, .int .i64 0, .string T] 50)) (some ⟨w3.heap.size, 0, none⟩) 1 [(⟨0, 0, T⟩ : S50)] from recs_C [(⟨0, 0, T⟩ : S50)] (by simp) (heap_alloc_new _ _)); have HB5 := Lib.hid (hb3'.trans (hba.mono hb3'.size)); clear hba hb3 hb3')) | ((with_reducible refine gate_builtin (b := .append) (xs := #[.tmp 34, .tmp 46]) rfl ?_); (try (refine gate_guard (by rfl) ?_; dsimp only)); at_builtin; refine Kd.R_append_rows k50 (w0 := W2) W2.heap.size rfl (.tmp 34) (.tmp 46) 24 50 (.agg #[(.int .i64 0), (.int .i64 0), (.string ⟨#[]⟩)]) 32 rfl Try.underlying24 info50 rfl (by decide) (by omega) (.slice none 0 0) [] [(⟨0, 0, T⟩ : S50)] _ _ _ (fun _ => True) (fun _ => False) rfl rfl (Kd.R_nil _ _ _ _ _) HC5.out (fun _ _ h => by obtain rfl := k50_open h; exact k50_mkM _ _ _ _) (fun _ h => h.elim) (fun _ _ => trivial) HB5.out HB5.out.size ?aL ?_; (case aL => simp); intro v8 w8 hR8 hb8 hg8 hat8))
        obtain ⟨A8, c8, rfl, hc8, _⟩ := Kd.R_reads hR8
        go_meet
        case rel =>
          have e : ([] ++ [(⟨0, 0, T⟩ : S50)]) = headP a b := by rw [HQ.out]; rfl
          rw [e] at hR8
          exact ⟨A8, c8, by rw [← e], hR8, hb8⟩
    case rest =>
      obtain ⟨A5, c5, rfl, hR5, hb5⟩ := hcut
      clear hq
      go_upto_region 4 with fail
      have hpl : (headP a b).length ≤ 1 := by unfold headP; split <;> simp
      obtain ⟨hp, hhp⟩ : ∃ hp, headP a b = hp := ⟨_, rfl⟩
      rw [hhp] at HD hR5 hpl ⊢
      have HPL := Lib.hid hpl
      clear hhp hpl
      obtain ⟨nh, hnh⟩ : ∃ nh, hp.length = nh := ⟨_, rfl⟩
      rw [hnh] at hR5 HPL ⊢
      have HNH := Lib.hid hnh
      have HR5 := Lib.hid hR5
      have HB5 := Lib.hid hb5
      clear hnh hR5 hb5
      go_wp2
      go_loopg [5, 6, 7] 900 (fun kq v5 v6 v7 WX => ∃ (i k : Nat) (ol : List S50) (A5 : Option Addr) (c5 n5 : Nat), v5 = .slice A5 n5 c5 ∧ v6 = .int .i64 (i : Int) ∧ v7 = .int .i64 (k : Int) ∧ i ≤ na ∧ k ≤ nb ∧ n5 = ol.length ∧ Kd.R k50 50 WX W2.heap.size (fun _ => True) (.slice A5 n5 c5) ol ∧ Below W2.heap.size W2 WX ∧ ol ++ walkP (a.f4.drop i) (b.f4.drop k) = D ∧ (na - i) + (nb - k) ≤ kq ∧ n5 + (na - i) + (nb - k) ≤ 1000)
      case atStart => exact ⟨0, 0, hp, A5, c5, nh, rfl, rfl, rfl, Nat.zero_le _, Nat.zero_le _, HNH.out.symm, HR5.out, HB5.out, HD.out, by omega, by have := HPL.out; omega⟩
      case round =>
        obtain ⟨i, k, ol, A5, c5, n5, rfl, rfl, rfl, hia, hkb, e5, hR5, hbr, hwk, hk, hlen⟩ := hrel
        obtain ⟨WX, hWX⟩ : ∃ W, W = wr := ⟨_, rfl⟩
        subst hWX
        have hi1 : IntKind.i64.wrap ((i : Int) + 1) = ((i + 1 : Nat) : Int) := by rw [IntKind.wrap_i64]; omega
        have hk1 : IntKind.i64.wrap ((k : Int) + 1) = ((k + 1 : Nat) : Int) := by rw [IntKind.wrap_i64]; omega
        have HXA := Lib.hid (show W2.cell? ⟨w.heap.size, 4, none⟩ = some (.slice Aa na ca) from (blk_cell H0.out 4).trans rfl)
        have HXB := Lib.hid (show W2.cell? ⟨w.heap.size + 1, 4, none⟩ = some (.slice Ab nb cb) from (blk_cell H1.out 4).trans rfl)
        have xa := below_cell hbr HXA.out
        have xb := below_cell hbr HXB.out
        have HR5 := Lib.hid hR5
        have HBR := Lib.hid hbr
        have HWK := Lib.hid hwk
        have HE5 := Lib.hid e5
        have HWX := Lib.hid (HB.out.trans (hbr.mono HB.out.size))
        clear hR5 hbr hwk e5
        by_cases hi : i < na
        rotate_left
        · have d1 : decide ((i : Int) < (na : Int)) = false := decide_eq_false (by omega)
          have d2 : ((i : Int) == (na : Int)) = true := beq_iff_eq.mpr (by omega)
          have hdi : a.f4.drop i = [] := List.drop_eq_nil_of_le (by have := HNA.out; omega)
          rw [hdi] at HWK
          have HDX := Lib.hid hdi
          clear hdi
          by_cases hkk : k < nb
          rotate_left
          · have d3 : decide ((k : Int) < (nb : Int)) = false := decide_eq_false (by omega)
            have hdk : b.f4.drop k = [] := List.drop_eq_nil_of_le (by have := HNB.out; omega)
            rw [hdk, walk_nn, List.append_nil] at HWK
            clear hdk
            have hwk := HWK.out
            subst hwk
            go_wp2
            go_ret
            exact ⟨_, rfl, R_base50 HR5.out HB.out.size, HWX.out⟩
          · have d3 : decide ((k : Int) < (nb : Int)) = true := decide_eq_true (by omega)
            have d4 : ((k : Int) == (nb : Int)) = false := beq_eq_false_iff_ne.mpr (by omega)
            have hbk : (0 : Int) ≤ (k : Int) ∧ (k : Int) < (nb : Int) := by omega
            obtain ⟨ady, had, x0, x1, x2, x3, x4, x5, x6, x7, x8, x9, x10, x11⟩ := at_T46 (Kd.C_below HRB.out HB.out) (k : Int) (by omega) (by omega)
            cases had
            rw [Int.toNat_natCast] at x0 x1 x2 x3 x4 x5 x6 x7 x8 x9 x10 x11
            have hlty : k < b.f4.length := by have := HNB.out; omega
            have hdry : b.f4.drop k = rd_T46 b.f4 (k : Int) :: b.f4.drop (k + 1) := by rw [List.drop_eq_getElem_cons hlty, rd_get b.f4 k hlty]
            have hmy : rd_T46 b.f4 (k : Int) ∈ b.f4 := by rw [rd_get b.f4 k hlty]; exact List.getElem_mem hlty
            obtain ⟨y, hy⟩ : ∃ y, rd_T46 b.f4 (k : Int) = y := ⟨_, rfl⟩
            rw [hy] at x0 x1 x2 x3 x4 x5 x6 x7 x8 x9 x10 x11 hdry hmy
            rw [hdry] at HWK
            have HDY := Lib.hid hdry
            have HMY := Lib.hid (HSB.out y hmy)
            have HY0 := Lib.hid x0
            have HY1 := Lib.hid x1
            have HY2 := Lib.hid x2
            have HY3 := Lib.hid x3
            have HY4 := Lib.hid x4
            have HY5 := Lib.hid x5
            have HY6 := Lib.hid x6
            have HY7 := Lib.hid x7
            have HY8 := Lib.hid x8
            have HY9 := Lib.hid x9
            have HY10 := Lib.hid x10
            have HY11 := Lib.hid x11
            clear x0 x1 x2 x3 x4 x5 x6 x7 x8 x9 x10 x11 hdry hmy hlty hy
            cases gk with
            | zero => omega
            | succ gk =>
            go_wp2
            refine wp_region_held_drew (S := fun w_ => Below WX.heap.size WX w_) (by kernel_rfl) (below_drew (Below.refl _ _)) (fun hS_ => ?_)
            have hS : Below WX.heap.size WX _ := hS_
            clear hS_
            change wpAnyH _ _ _ _ _ 25 #[false, false, false, false, false, false, false, false, false, false, false, false, false, false, false, false, false, false, false, false, false, false, false, false, false] _ _
            refine takeE 0 (some 60) #[true, false, false, false, false, false, false, false, false, false, false, false, false, false, false, false, false, false, false, false, false, false, false, false, false] hS ?_
            refine takeE 1 (some 61) #[true, true, false, false, false, false, false, false, false, false, false, false, false, false, false, false, false, false, false, false, false, false, false, false, false] hS ?_
            refine takeE 2 (some 62) #[true, true, true, false, false, false, false, false, false, false, false, false, false, false, false, false, false, false, false, false, false, false, false, false, false] hS ?_ (hy := fun w_ hS_ => by (replace hS_ : Below WX.heap.size WX w_ := hS_); have x0_ := below_cell (Below.trans HBR.out (hS_.mono HBR.out.size)) HXB.out; go_simp <;> with_reducible rfl)
            refine doD (i := 3) (ls2 := #[true, true, true, true, false, false, false, false, false, false, false, false, false, false, false, false, false, false, false, false, false, false, false, false, false]) (by kernel_rfl) rfl (by kernel_rfl) (by kernel_rfl) (fun K hK => ?_)
            go_simp
            refine hK.out _ _ ?_ (fun hS_ => ?_)
            · show Below WX.heap.size WX _
              exact hS
            clear hK K hS
            have hS : Below WX.heap.size WX _ := hS_
            clear hS_
            refine takeE 4 (some 64) #[true, true, true, true, true, false, false, false, false, false, false, false, false, false, false, false, false, false, false, false, false, false, false, false, false] hS ?_
            refine takeE 5 (some 65) #[true, true, true, true, true, true, false, false, false, false, false, false, false, false, false, false, false, false, false, false, false, false, false, false, false] hS ?_
            refine takeE 6 (some 66) #[true, true, true, true, true, true, true, false, false, false, false, false, false, false, false, false, false, false, false, false, false, false, false, false, false] hS ?_
            refine takeE 7 (some 67) #[true, true, true, true, true, true, true, true, false, false, false, false, false, false, false, false, false, false, false, false, false, false, false, false, false] hS ?_
            refine takeE 8 (some 68) #[true, true, true, true, true, true, true, true, true, false, false, false, false, false, false, false, false, false, false, false, false, false, false, false, false] hS ?_ (hy := fun w_ hS_ => by (replace hS_ : Below WX.heap.size WX w_ := hS_); have x0_ := below_cell (Below.trans HBR.out (hS_.mono HBR.out.size)) HXA.out; go_simp <;> with_reducible rfl)
            refine doD (i := 9) (ls2 := #[true, true, true, true, true, true, true, true, true, true, false, false, false, false, false, false, false, false, false, false, false, false, false, false, false]) (by kernel_rfl) rfl (by kernel_rfl) (by kernel_rfl) (fun K hK => ?_)
            go_simp
            refine hK.out _ _ ?_ (fun hS_ => ?_)
            · show Below WX.heap.size WX _
              exact hS
            clear hK K hS
            have hS : Below WX.heap.size WX _ := hS_
            clear hS_
            refine takeE 10 (some 70) #[true, true, true, true, true, true, true, true, true, true, true, false, false, false, false, false, false, false, false, false, false, false, false, false, false] hS ?_
            refine takeE 11 (some 71) #[true, true, true, true, true, true, true, true, true, true, true, true, false, false, false, false, false, false, false, false, false, false, false, false, false] hS ?_
            refine offE 12 (some 72) #[true, true, true, true, true, true, true, true, true, true, true, true, true, false, false, false, false, false, false, false, false, false, false, false, false] hS ?_
            refine offE 13 (some 73) #[true, true, true, true, true, true, true, true, true, true, true, true, true, true, false, false, false, false, false, false, false, false, false, false, false] hS ?_
            refine offE 14 (some 74) #[true, true, true, true, true, true, true, true, true, true, true, true, true, true, true, false, false, false, false, false, false, false, false, false, false] hS ?_
            refine offE 15 (some 75) #[true, true, true, true, true, true, true, true, true, true, true, true, true, true, true, true, false, false, false, false, false, false, false, false, false] hS ?_
            refine offE 16 (some 76) #[true, true, true, true, true, true, true, true, true, true, true, true, true, true, true, true, true, false, false, false, false, false, false, false, false] hS ?_
            refine offE 17 (some 77) #[true, true, true, true, true, true, true, true, true, true, true, true, true, true, true, true, true, true, false, false, false, false, false, false, false] hS ?_
            refine offE 18 (some 78) #[true, true, true, true, true, true, true, true, true, true, true, true, true, true, true, true, true, true, true, false, false, false, false, false, false] hS ?_
            refine offE 19 (some 79) #[true, true, true, true, true, true, true, true, true, true, true, true, true, true, true, true, true, true, true, true, false, false, false, false, false] hS ?_
            refine offE 20 (some 80) #[true, true, true, true, true, true, true, true, true, true, true, true, true, true, true, true, true, true, true, true, true, false, false, false, false] hS ?_
            refine offE 21 (some 81) #[true, true, true, true, true, true, true, true, true, true, true, true, true, true, true, true, true, true, true, true, true, true, false, false, false] hS ?_
            refine offE 22 (some 82) #[true, true, true, true, true, true, true, true, true, true, true, true, true, true, true, true, true, true, true, true, true, true, true, false, false] hS ?_
            refine takeE 23 (some 83) #[true, true, true, true, true, true, true, true, true, true, true, true, true, true, true, true, true, true, true, true, true, true, true, true, false] hS ?_
            refine takeE 24 (some 84) #[true, true, true, true, true, true, true, true, true, true, true, true, true, true, true, true, true, true, true, true, true, true, true, true, true] hS ?_
            refine wpAnyH_done (by kernel_rfl) ?_ _
            try go_simp
            have HS9 := Lib.hid hS
            have HBS9 := Lib.hid (HBR.out.trans (hS.mono HBR.out.size))
            clear hS
            go_wp2
            refine wp_region_held_drew (S := fun w_ => Below WX.drew.heap.size WX.drew w_) (by kernel_rfl) (below_drew (Below.refl _ _)) (fun hS_ => ?_)
            have hS : Below WX.drew.heap.size WX.drew _ := hS_
            clear hS_
            change wpAnyH _ _ _ _ _ 18 #[false, false, false, false, false, false, false, false, false, false, false, false, false, false, false, false, false, false] _ _
            refine takeE 0 (some 104) #[true, false, false, false, false, false, false, false, false, false, false, false, false, false, false, false, false, false] hS ?_
            refine takeE 1 (some 105) #[true, true, false, false, false, false, false, false, false, false, false, false, false, false, false, false, false, false] hS ?_
            refine takeE 2 (some 106) #[true, true, true, false, false, false, false, false, false, false, false, false, false, false, false, false, false, false] hS ?_ (hy := fun w_ hS_ => by (replace hS_ : Below WX.drew.heap.size WX.drew w_ := hS_); have x0_ := below_cell (Below.trans HBS9.out (hS_.mono HBS9.out.size)) HXA.out; go_simp <;> with_reducible rfl)
            refine doD (i := 3) (ls2 := #[true, true, true, true, false, false, false, false, false, false, false, false, false, false, false, false, false, false]) (by kernel_rfl) rfl (by kernel_rfl) (by kernel_rfl) (fun K hK => ?_)
            go_simp
            refine hK.out _ _ ?_ (fun hS_ => ?_)
            · show Below WX.drew.heap.size WX.drew _
              exact hS
            clear hK K hS
            have hS : Below WX.drew.heap.size WX.drew _ := hS_
            clear hS_
            refine takeE 4 (some 108) #[true, true, true, true, true, false, false, false, false, false, false, false, false, false, false, false, false, false] hS ?_
            refine takeE 5 (some 109) #[true, true, true, true, true, true, false, false, false, false, false, false, false, false, false, false, false, false] hS ?_
            refine offE 6 (some 110) #[true, true, true, true, true, true, true, false, false, false, false, false, false, false, false, false, false, false] hS ?_
            refine offE 7 (some 111) #[true, true, true, true, true, true, true, true, false, false, false, false, false, false, false, false, false, false] hS ?_
            refine offE 8 (some 112) #[true, true, true, true, true, true, true, true, true, false, false, false, false, false, false, false, false, false] hS ?_
            refine offE 9 (some 113) #[true, true, true, true, true, true, true, true, true, true, false, false, false, false, false, false, false, false] hS ?_
            refine offE 10 (some 114) #[true, true, true, true, true, true, true, true, true, true, true, false, false, false, false, false, false, false] hS ?_
            refine offE 11 (some 115) #[true, true, true, true, true, true, true, true, true, true, true, true, false, false, false, false, false, false] hS ?_
            refine offE 12 (some 116) #[true, true, true, true, true, true, true, true, true, true, true, true, true, false, false, false, false, false] hS ?_
            refine offE 13 (some 117) #[true, true, true, true, true, true, true, true, true, true, true, true, true, true, false, false, false, false] hS ?_
            refine offE 14 (some 118) #[true, true, true, true, true, true, true, true, true, true, true, true, true, true, true, false, false, false] hS ?_
            refine offE 15 (some 119) #[true, true, true, true, true, true, true, true, true, true, true, true, true, true, true, true, false, false] hS ?_
            refine offE 16 (some 120) #[true, true, true, true, true, true, true, true, true, true, true, true, true, true, true, true, true, false] hS ?_
            refine takeE 17 (some 121) #[true, true, true, true, true, true, true, true, true, true, true, true, true, true, true, true, true, true] hS ?_
            refine wpAnyH_done (by kernel_rfl) ?_ _
            try go_simp
            have HS12 := Lib.hid (Below.trans HS9.out (hS.mono HS9.out.size))
            have HBS12 := Lib.hid (HBR.out.trans (HS12.out.mono HBR.out.size))
            clear hS
            obtain ⟨r, hr⟩ : ∃ r, tellH y = r := ⟨_, rfl⟩
            have htell := fun w => there_calls y HMY.out w
            rw [hr] at htell
            have HTELL := Lib.hid htell
            have HRR := Lib.hid (show tellH y = ⟨r.f0, r.f1, r.f2⟩ from hr)
            clear htell hr
            have x0 := below_cell HBS12.out HY0.out
            have x1 := below_cell HBS12.out HY1.out
            have x2 := below_cell HBS12.out HY2.out
            have x3 := below_cell HBS12.out HY3.out
            have x4 := below_cell HBS12.out HY4.out
            have x5 := below_cell HBS12.out HY5.out
            have x6 := below_cell HBS12.out HY6.out
            have x7 := below_cell HBS12.out HY7.out
            have x8 := below_cell HBS12.out HY8.out
            have x9 := below_cell HBS12.out HY9.out
            have x10 := below_cell HBS12.out HY10.out
            have x11 := below_cell HBS12.out HY11.out
            have xb := below_cell HBS12.out HXB.out
            have hl5 : ol.length ≤ 1000 := by have := HE5.out; omega
            go_wp2_with (first | (go_at_call 65; go_loud ((with_reducible refine (HTELL.out _).mono ?_); rintro e w6 ⟨rfl, hb6⟩; have hba := (Below.refl w6.heap.size w6).alloc (Nat.le_refl _) (.cells #[.int .i64 r.f0, .int .i64 r.f1, .string r.f2] 50); have HC8 := Lib.hid (show k50.C (w6.alloc (.cells #[.int .i64 r.f0, .int .i64 r.f1, .string r.f2] 50)) (some ⟨w6.heap.size, 0, none⟩) 1 [(⟨r.f0, r.f1, r.f2⟩ : S50)] from recs_C [(⟨r.f0, r.f1, r.f2⟩ : S50)] (by simp) (heap_alloc_new _ _)); have hbz := HS12.out.trans ((hb6.trans (hba.mono hb6.size)).mono HS12.out.size); have HR8 := Lib.hid (Kd.R_below HR5.out hbz); have HB8 := Lib.hid (HBR.out.trans (hbz.mono HBR.out.size)); clear hba hb6 hbz)) | ((with_reducible refine gate_builtin (b := .append) (xs := #[.tmp 122, .tmp 129]) rfl ?_); (try (refine gate_guard (by rfl) ?_; dsimp only)); at_builtin; go_loud (refine Kd.R_append_rows k50 (w0 := W2) W2.heap.size rfl (.tmp 122) (.tmp 129) 24 50 (.agg #[(.int .i64 0), (.int .i64 0), (.string ⟨#[]⟩)]) 32 rfl Try.underlying24 info50 rfl (by decide) (by omega) (.slice A5 n5 c5) ol [(⟨r.f0, r.f1, r.f2⟩ : S50)] _ _ _ (fun _ => True) (fun _ => False) rfl rfl HR8.out HC8.out (fun _ _ h => by obtain rfl := k50_open h; exact k50_mkM _ _ _ _) (fun _ h => h.elim) (fun _ _ => trivial) HB8.out HB8.out.size ?aL ?_; (case aL => have h_ := HE5.out; first | omega | (simp; done) | (simp; omega)); intro v8 w8 hR8 hb8 hg8 hat8; obtain ⟨A9, c9, hv9, hc9, _⟩ := Kd.R_reads hR8; have hln : (ol ++ [(⟨r.f0, r.f1, r.f2⟩ : S50)]).length = n5 + 1 := (by have h_ := HE5.out; simp only [List.length_append, List.length_cons, List.length_nil]; omega); rw [hln] at hv9; subst hv9; have HR9 := Lib.hid hR8; have HB9 := Lib.hid hb8; clear hg8 hat8 hln hR8; clear hb8)))
            go_wp2
            go_roundg gk
            case measure => omega
            case rel =>
              exact ⟨i, k + 1, ol ++ [(⟨r.f0, r.f1, r.f2⟩ : S50)], A9, c9, n5 + 1, rfl, by first | rfl | (congr 1), by first | rfl | (congr 1), by omega, by omega, by simp [HE5.out], HR9.out, HB9.out, by have h_ := HWK.out; rw [walk_nc, HRR.out] at h_; rw [List.append_assoc]; rw [HDX.out]; exact h_, by omega, by omega⟩
        · have d1 : decide ((i : Int) < (na : Int)) = true := decide_eq_true (by omega)
          have d2 : ((i : Int) == (na : Int)) = false := beq_eq_false_iff_ne.mpr (by omega)
          have hbi : (0 : Int) ≤ (i : Int) ∧ (i : Int) < (na : Int) := by omega
          by_cases hkk : k < nb
          rotate_left
          · have d3 : decide ((k : Int) < (nb : Int)) = false := decide_eq_false (by omega)
            have d4 : ((k : Int) == (nb : Int)) = true := beq_iff_eq.mpr (by omega)
            have hdk : b.f4.drop k = [] := List.drop_eq_nil_of_le (by have := HNB.out; omega)
            rw [hdk] at HWK
            have HDY := Lib.hid hdk
            clear hdk
            obtain ⟨adx, had, x0, x1, x2, x3, x4, x5, x6, x7, x8, x9, x10, x11⟩ := at_T46 (Kd.C_below HRA.out HB.out) (i : Int) (by omega) (by omega)
            cases had
            rw [Int.toNat_natCast] at x0 x1 x2 x3 x4 x5 x6 x7 x8 x9 x10 x11
            have hltx : i < a.f4.length := by have := HNA.out; omega
            have hdrx : a.f4.drop i = rd_T46 a.f4 (i : Int) :: a.f4.drop (i + 1) := by rw [List.drop_eq_getElem_cons hltx, rd_get a.f4 i hltx]
            have hmx : rd_T46 a.f4 (i : Int) ∈ a.f4 := by rw [rd_get a.f4 i hltx]; exact List.getElem_mem hltx
            obtain ⟨x, hx⟩ : ∃ x, rd_T46 a.f4 (i : Int) = x := ⟨_, rfl⟩
            rw [hx] at x0 x1 x2 x3 x4 x5 x6 x7 x8 x9 x10 x11 hdrx hmx
            rw [hdrx] at HWK
            have HDX := Lib.hid hdrx
            have HMX := Lib.hid (HSA.out x hmx)
            have HX0 := Lib.hid x0
            have HX1 := Lib.hid x1
            have HX2 := Lib.hid x2
            have HX3 := Lib.hid x3
            have HX4 := Lib.hid x4
            have HX5 := Lib.hid x5
            have HX6 := Lib.hid x6
            have HX7 := Lib.hid x7
            have HX8 := Lib.hid x8
            have HX9 := Lib.hid x9
            have HX10 := Lib.hid x10
            have HX11 := Lib.hid x11
            clear x0 x1 x2 x3 x4 x5 x6 x7 x8 x9 x10 x11 hdrx hmx hltx hx
            cases gk with
            | zero => omega
            | succ gk =>
            go_wp2
            refine wp_region_held_drew (S := fun w_ => Below WX.heap.size WX w_) (by kernel_rfl) (below_drew (Below.refl _ _)) (fun hS_ => ?_)
            have hS : Below WX.heap.size WX _ := hS_
            clear hS_
            change wpAnyH _ _ _ _ _ 25 #[false, false, false, false, false, false, false, false, false, false, false, false, false, false, false, false, false, false, false, false, false, false, false, false, false] _ _
            refine takeE 0 (some 60) #[true, false, false, false, false, false, false, false, false, false, false, false, false, false, false, false, false, false, false, false, false, false, false, false, false] hS ?_
            refine takeE 1 (some 61) #[true, true, false, false, false, false, false, false, false, false, false, false, false, false, false, false, false, false, false, false, false, false, false, false, false] hS ?_
            refine takeE 2 (some 62) #[true, true, true, false, false, false, false, false, false, false, false, false, false, false, false, false, false, false, false, false, false, false, false, false, false] hS ?_ (hy := fun w_ hS_ => by (replace hS_ : Below WX.heap.size WX w_ := hS_); have x0_ := below_cell (Below.trans HBR.out (hS_.mono HBR.out.size)) HXB.out; go_simp <;> with_reducible rfl)
            refine doD (i := 3) (ls2 := #[true, true, true, true, false, false, false, false, false, false, false, false, false, false, false, false, false, false, false, false, false, false, false, false, false]) (by kernel_rfl) rfl (by kernel_rfl) (by kernel_rfl) (fun K hK => ?_)
            go_simp
            refine hK.out _ _ ?_ (fun hS_ => ?_)
            · show Below WX.heap.size WX _
              exact hS
            clear hK K hS
            have hS : Below WX.heap.size WX _ := hS_
            clear hS_
            refine takeE 4 (some 64) #[true, true, true, true, true, false, false, false, false, false, false, false, false, false, false, false, false, false, false, false, false, false, false, false, false] hS ?_
            refine takeE 5 (some 65) #[true, true, true, true, true, true, false, false, false, false, false, false, false, false, false, false, false, false, false, false, false, false, false, false, false] hS ?_
            refine offE 6 (some 66) #[true, true, true, true, true, true, true, false, false, false, false, false, false, false, false, false, false, false, false, false, false, false, false, false, false] hS ?_
            refine offE 7 (some 67) #[true, true, true, true, true, true, true, true, false, false, false, false, false, false, false, false, false, false, false, false, false, false, false, false, false] hS ?_
            refine offE 8 (some 68) #[true, true, true, true, true, true, true, true, true, false, false, false, false, false, false, false, false, false, false, false, false, false, false, false, false] hS ?_
            refine offE 9 (some 69) #[true, true, true, true, true, true, true, true, true, true, false, false, false, false, false, false, false, false, false, false, false, false, false, false, false] hS ?_
            refine offE 10 (some 70) #[true, true, true, true, true, true, true, true, true, true, true, false, false, false, false, false, false, false, false, false, false, false, false, false, false] hS ?_
            refine offE 11 (some 71) #[true, true, true, true, true, true, true, true, true, true, true, true, false, false, false, false, false, false, false, false, false, false, false, false, false] hS ?_
            refine offE 12 (some 72) #[true, true, true, true, true, true, true, true, true, true, true, true, true, false, false, false, false, false, false, false, false, false, false, false, false] hS ?_
            refine offE 13 (some 73) #[true, true, true, true, true, true, true, true, true, true, true, true, true, true, false, false, false, false, false, false, false, false, false, false, false] hS ?_
            refine offE 14 (some 74) #[true, true, true, true, true, true, true, true, true, true, true, true, true, true, true, false, false, false, false, false, false, false, false, false, false] hS ?_
            refine offE 15 (some 75) #[true, true, true, true, true, true, true, true, true, true, true, true, true, true, true, true, false, false, false, false, false, false, false, false, false] hS ?_
            refine offE 16 (some 76) #[true, true, true, true, true, true, true, true, true, true, true, true, true, true, true, true, true, false, false, false, false, false, false, false, false] hS ?_
            refine offE 17 (some 77) #[true, true, true, true, true, true, true, true, true, true, true, true, true, true, true, true, true, true, false, false, false, false, false, false, false] hS ?_
            refine offE 18 (some 78) #[true, true, true, true, true, true, true, true, true, true, true, true, true, true, true, true, true, true, true, false, false, false, false, false, false] hS ?_
            refine offE 19 (some 79) #[true, true, true, true, true, true, true, true, true, true, true, true, true, true, true, true, true, true, true, true, false, false, false, false, false] hS ?_
            refine offE 20 (some 80) #[true, true, true, true, true, true, true, true, true, true, true, true, true, true, true, true, true, true, true, true, true, false, false, false, false] hS ?_
            refine offE 21 (some 81) #[true, true, true, true, true, true, true, true, true, true, true, true, true, true, true, true, true, true, true, true, true, true, false, false, false] hS ?_
            refine offE 22 (some 82) #[true, true, true, true, true, true, true, true, true, true, true, true, true, true, true, true, true, true, true, true, true, true, true, false, false] hS ?_
            refine offE 23 (some 83) #[true, true, true, true, true, true, true, true, true, true, true, true, true, true, true, true, true, true, true, true, true, true, true, true, false] hS ?_
            refine takeE 24 (some 84) #[true, true, true, true, true, true, true, true, true, true, true, true, true, true, true, true, true, true, true, true, true, true, true, true, true] hS ?_
            refine wpAnyH_done (by kernel_rfl) ?_ _
            try go_simp
            have HS9 := Lib.hid hS
            have HBS9 := Lib.hid (HBR.out.trans (hS.mono HBR.out.size))
            clear hS
            go_wp2
            have hp2 := fun w => putRef_calls 2 (by decide) (by decide) w
            obtain ⟨T, hT⟩ : ∃ T, numT 2 = T := ⟨_, rfl⟩
            rw [hT] at hp2
            have HP2 := Lib.hid hp2
            have HRR := Lib.hid (show tellG x = ⟨x.f0, x.f1, T⟩ from by unfold tellG; rw [hT])
            clear hp2 hT
            have hl5 : ol.length ≤ 1000 := by have := HE5.out; omega
            refine wp_region_held_drew (S := fun w_ => Below W2.heap.size W2 w_) (by kernel_rfl) (below_drew HBS9.out) (fun hS_ => ?_)
            have hS : Below W2.heap.size W2 _ := hS_
            clear hS_
            change wpAnyH _ _ _ _ _ 18 #[false, false, false, false, false, false, false, false, false, false, false, false, false, false, false, false, false, false] _ _
            refine takeE 0 (some 85) #[true, false, false, false, false, false, false, false, false, false, false, false, false, false, false, false, false, false] hS ?_
            refine takeE 1 (some 86) #[true, true, false, false, false, false, false, false, false, false, false, false, false, false, false, false, false, false] hS ?_
            refine takeE 2 (some 87) #[true, true, true, false, false, false, false, false, false, false, false, false, false, false, false, false, false, false] hS ?_ (hy := fun w_ hS_ => by (replace hS_ : Below W2.heap.size W2 w_ := hS_); have x0_ := below_cell hS_ HXA.out; go_simp <;> with_reducible rfl)
            refine takeE 3 (some 88) #[true, true, true, true, false, false, false, false, false, false, false, false, false, false, false, false, false, false] hS ?_
            refine takeE 4 (some 89) #[true, true, true, true, true, false, false, false, false, false, false, false, false, false, false, false, false, false] hS ?_
            refine takeE 5 (some 90) #[true, true, true, true, true, true, false, false, false, false, false, false, false, false, false, false, false, false] hS ?_
            refine takeE 6 (some 91) #[true, true, true, true, true, true, true, false, false, false, false, false, false, false, false, false, false, false] hS ?_ (hy := fun w_ hS_ => by (replace hS_ : Below W2.heap.size W2 w_ := hS_); have x0_ := below_cell hS_ HX0.out; go_simp <;> with_reducible rfl)
            refine takeE 7 (some 92) #[true, true, true, true, true, true, true, true, false, false, false, false, false, false, false, false, false, false] hS ?_
            refine takeE 8 (some 93) #[true, true, true, true, true, true, true, true, true, false, false, false, false, false, false, false, false, false] hS ?_ (hy := fun w_ hS_ => by (replace hS_ : Below W2.heap.size W2 w_ := hS_); have x0_ := below_cell hS_ HXA.out; go_simp <;> with_reducible rfl)
            refine takeE 9 (some 94) #[true, true, true, true, true, true, true, true, true, true, false, false, false, false, false, false, false, false] hS ?_
            refine takeE 10 (some 95) #[true, true, true, true, true, true, true, true, true, true, true, false, false, false, false, false, false, false] hS ?_
            refine takeE 11 (some 96) #[true, true, true, true, true, true, true, true, true, true, true, true, false, false, false, false, false, false] hS ?_
            refine takeE 12 (some 97) #[true, true, true, true, true, true, true, true, true, true, true, true, true, false, false, false, false, false] hS ?_ (hy := fun w_ hS_ => by (replace hS_ : Below W2.heap.size W2 w_ := hS_); have x0_ := below_cell hS_ HX1.out; go_simp <;> with_reducible rfl)
            refine doD (i := 13) (ls2 := #[true, true, true, true, true, true, true, true, true, true, true, true, true, true, false, false, false, false]) (by kernel_rfl) rfl (by kernel_rfl) (by kernel_rfl) (fun K hK => ?_)
            go_simp
            go_wp2_with (first | (go_at_call 50; go_loud ((with_reducible refine (HP2.out _).mono ?_); rintro e w6 ⟨rfl, hb6⟩)))
            have HS6 := Lib.hid (show Below WX.drew.heap.size WX.drew w6 from (below_drew (Below.refl _ _)).trans hb6)
            refine hK.out _ _ ?_ (fun hS_ => ?_)
            · show Below W2.heap.size W2 _
              exact hS.trans (hb6.mono hS.size)
            clear hK K hS hb6
            have hS : Below W2.heap.size W2 _ := hS_
            clear hS_
            refine takeE 14 (some 99) #[true, true, true, true, true, true, true, true, true, true, true, true, true, true, true, false, false, false] hS ?_
            refine doD (i := 15) (ls2 := #[true, true, true, true, true, true, true, true, true, true, true, true, true, true, true, true, false, false]) (by kernel_rfl) rfl (by kernel_rfl) (by kernel_rfl) (fun K hK => ?_)
            go_simp
            refine hK.out _ _ ?_ (fun hS_ => ?_)
            · show Below W2.heap.size W2 _
              exact hS.alloc hS.size _
            clear hK K hS
            have hS : Below W2.heap.size W2 _ := hS_
            clear hS_
            have hba := (Below.refl w6.heap.size w6).alloc (Nat.le_refl _) (.cells #[.int .i64 x.f0, .int .i64 x.f1, .string T] 50)
            have HC8 := Lib.hid (show k50.C (w6.alloc (.cells #[.int .i64 x.f0, .int .i64 x.f1, .string T] 50)) (some ⟨w6.heap.size, 0, none⟩) 1 [(⟨x.f0, x.f1, T⟩ : S50)] from recs_C [(⟨x.f0, x.f1, T⟩ : S50)] (by simp) (heap_alloc_new _ _))
            have HR8 := Lib.hid (Kd.R_below (Kd.R_below (Kd.R_below HR5.out HS9.out) HS6.out) hba)
            have HB8 := Lib.hid hS
            clear hba
            refine doD (i := 16) (ls2 := #[true, true, true, true, true, true, true, true, true, true, true, true, true, true, true, true, true, false]) (by kernel_rfl) rfl (by kernel_rfl) (by kernel_rfl) (fun K hK => ?_)
            refine R_append_op k50 (w0 := W2) W2.heap.size (.tmp 85) (.tmp 100) 24 50 (.agg #[(.int .i64 0), (.int .i64 0), (.string ⟨#[]⟩)]) 32 rfl Try.underlying24 info50 rfl (by decide) (by omega) (.slice A5 n5 c5) ol [(⟨x.f0, x.f1, T⟩ : S50)] _ _ _ (fun _ => True) (fun _ => False) rfl rfl HR8.out HC8.out (fun _ _ h => by obtain rfl := k50_open h; exact k50_mkM _ _ _ _) (fun _ h => h.elim) (fun _ _ => trivial) HB8.out HB8.out.size (by have h_ := HE5.out; first | omega | (simp; done) | (simp; omega)) ?_
            intro v8 w8 hR8 hb8 hg8 hat8
            obtain ⟨A9, c9, hv9, hc9, _⟩ := Kd.R_reads hR8
            have hln : (ol ++ [(⟨x.f0, x.f1, T⟩ : S50)]).length = n5 + 1 := (by have h_ := HE5.out; simp only [List.length_append, List.length_cons, List.length_nil]; omega)
            rw [hln] at hv9
            subst hv9
            have HR9 := Lib.hid hR8
            have HB9 := Lib.hid hb8
            refine hK.out _ _ ?_ (fun hS_ => ?_)
            · show Below W2.heap.size W2 _
              exact hb8
            clear hK K hS hb8 hat8 hg8 hR8 hln
            have hS : Below W2.heap.size W2 _ := hS_
            clear hS_
            refine takeE 17 (some 5) #[true, true, true, true, true, true, true, true, true, true, true, true, true, true, true, true, true, true] hS ?_
            refine wpAnyH_done (by kernel_rfl) ?_ _
            try go_simp
            clear hS
            go_wp2
            go_roundg gk
            case measure => omega
            case rel =>
              exact ⟨i + 1, k, ol ++ [(⟨x.f0, x.f1, T⟩ : S50)], A9, c9, n5 + 1, rfl, by first | rfl | (congr 1), by first | rfl | (congr 1), by omega, by omega, by simp [HE5.out], HR9.out, HB9.out, by have h_ := HWK.out; rw [walk_cn, HRR.out] at h_; rw [List.append_assoc]; rw [HDY.out]; exact h_, by omega, by omega⟩
          · have d3 : decide ((k : Int) < (nb : Int)) = true := decide_eq_true (by omega)
            have d4 : ((k : Int) == (nb : Int)) = false := beq_eq_false_iff_ne.mpr (by omega)
            have hbk : (0 : Int) ≤ (k : Int) ∧ (k : Int) < (nb : Int) := by omega
            obtain ⟨adx, had, x0, x1, x2, x3, x4, x5, x6, x7, x8, x9, x10, x11⟩ := at_T46 (Kd.C_below HRA.out HB.out) (i : Int) (by omega) (by omega)
            cases had
            rw [Int.toNat_natCast] at x0 x1 x2 x3 x4 x5 x6 x7 x8 x9 x10 x11
            have hltx : i < a.f4.length := by have := HNA.out; omega
            have hdrx : a.f4.drop i = rd_T46 a.f4 (i : Int) :: a.f4.drop (i + 1) := by rw [List.drop_eq_getElem_cons hltx, rd_get a.f4 i hltx]
            have hmx : rd_T46 a.f4 (i : Int) ∈ a.f4 := by rw [rd_get a.f4 i hltx]; exact List.getElem_mem hltx
            obtain ⟨x, hx⟩ : ∃ x, rd_T46 a.f4 (i : Int) = x := ⟨_, rfl⟩
            rw [hx] at x0 x1 x2 x3 x4 x5 x6 x7 x8 x9 x10 x11 hdrx hmx
            rw [hdrx] at HWK
            have HDX := Lib.hid hdrx
            have HMX := Lib.hid (HSA.out x hmx)
            have HX0 := Lib.hid x0
            have HX1 := Lib.hid x1
            have HX2 := Lib.hid x2
            have HX3 := Lib.hid x3
            have HX4 := Lib.hid x4
            have HX5 := Lib.hid x5
            have HX6 := Lib.hid x6
            have HX7 := Lib.hid x7
            have HX8 := Lib.hid x8
            have HX9 := Lib.hid x9
            have HX10 := Lib.hid x10
            have HX11 := Lib.hid x11
            clear x0 x1 x2 x3 x4 x5 x6 x7 x8 x9 x10 x11 hdrx hmx hltx hx
            obtain ⟨ady, had, x0, x1, x2, x3, x4, x5, x6, x7, x8, x9, x10, x11⟩ := at_T46 (Kd.C_below HRB.out HB.out) (k : Int) (by omega) (by omega)
            cases had
            rw [Int.toNat_natCast] at x0 x1 x2 x3 x4 x5 x6 x7 x8 x9 x10 x11
            have hlty : k < b.f4.length := by have := HNB.out; omega
            have hdry : b.f4.drop k = rd_T46 b.f4 (k : Int) :: b.f4.drop (k + 1) := by rw [List.drop_eq_getElem_cons hlty, rd_get b.f4 k hlty]
            have hmy : rd_T46 b.f4 (k : Int) ∈ b.f4 := by rw [rd_get b.f4 k hlty]; exact List.getElem_mem hlty
            obtain ⟨y, hy⟩ : ∃ y, rd_T46 b.f4 (k : Int) = y := ⟨_, rfl⟩
            rw [hy] at x0 x1 x2 x3 x4 x5 x6 x7 x8 x9 x10 x11 hdry hmy
            rw [hdry] at HWK
            have HDY := Lib.hid hdry
            have HMY := Lib.hid (HSB.out y hmy)
            have HY0 := Lib.hid x0
            have HY1 := Lib.hid x1
            have HY2 := Lib.hid x2
            have HY3 := Lib.hid x3
            have HY4 := Lib.hid x4
            have HY5 := Lib.hid x5
            have HY6 := Lib.hid x6
            have HY7 := Lib.hid x7
            have HY8 := Lib.hid x8
            have HY9 := Lib.hid x9
            have HY10 := Lib.hid x10
            have HY11 := Lib.hid x11
            clear x0 x1 x2 x3 x4 x5 x6 x7 x8 x9 x10 x11 hdry hmy hlty hy
            cases gk with
            | zero => omega
            | succ gk =>
            have hax : ∀ w, Calls Try.prog 64 #[cellV x, cellV y] w fun e w' => e = .returned (.bool (aheadB x y)) ∧ Below w.heap.size w w' := fun w => aheadR_calls x y w
            obtain ⟨q1, hq1⟩ : ∃ q, aheadB x y = q := ⟨_, rfl⟩
            rw [hq1] at hax
            have HAXY := Lib.hid hax
            have HQ1 := Lib.hid hq1
            clear hax hq1
            have hax : ∀ w, Calls Try.prog 64 #[cellV y, cellV x] w fun e w' => e = .returned (.bool (aheadB y x)) ∧ Below w.heap.size w w' := fun w => aheadR_calls y x w
            obtain ⟨q2, hq2⟩ : ∃ q, aheadB y x = q := ⟨_, rfl⟩
            rw [hq2] at hax
            have HAYX := Lib.hid hax
            have HQ2 := Lib.hid hq2
            clear hax hq2
            have heq := fun (d : Nat) (w : World) => eqA46 d w x.f0 y.f0 x.f1 y.f1 x.f2.f0 y.f2.f0 x.f2.f1 y.f2.f1 x.f2.f2 y.f2.f2 x.f2.f3 y.f2.f3 x.f2.f4.f0 y.f2.f4.f0 x.f2.f4.f1 y.f2.f4.f1 x.f2.f4.f2 y.f2.f4.f2 x.f2.f4.f3 y.f2.f4.f3 x.f2.f5 y.f2.f5 x.f2.f6 y.f2.f6
            obtain ⟨q3, hq3⟩ : ∃ q, eqC x y = q := ⟨_, rfl⟩
            have heq2 : ∀ (d : Nat) (w : World), (Op.equalIn (d + 4) 46 (cellV x) (cellV y)).run Try.prog w = .ok q3 w := fun d w => by rw [← hq3]; exact heq d w
            have HEQ := Lib.hid heq2
            have HQ3 := Lib.hid hq3
            clear heq heq2 hq3
            go_wp2
            cases q1 with
            | true =>
              refine wp_region_held_drew (S := fun w_ => Below WX.heap.size WX w_) (by kernel_rfl) (below_drew (Below.refl _ _)) (fun hS_ => ?_)
              have hS : Below WX.heap.size WX _ := hS_
              clear hS_
              change wpAnyH _ _ _ _ _ 25 #[false, false, false, false, false, false, false, false, false, false, false, false, false, false, false, false, false, false, false, false, false, false, false, false, false] _ _
              refine takeE 0 (some 60) #[true, false, false, false, false, false, false, false, false, false, false, false, false, false, false, false, false, false, false, false, false, false, false, false, false] hS ?_
              refine takeE 1 (some 61) #[true, true, false, false, false, false, false, false, false, false, false, false, false, false, false, false, false, false, false, false, false, false, false, false, false] hS ?_
              refine takeE 2 (some 62) #[true, true, true, false, false, false, false, false, false, false, false, false, false, false, false, false, false, false, false, false, false, false, false, false, false] hS ?_ (hy := fun w_ hS_ => by (replace hS_ : Below WX.heap.size WX w_ := hS_); have x0_ := below_cell (Below.trans HBR.out (hS_.mono HBR.out.size)) HXB.out; go_simp <;> with_reducible rfl)
              refine doD (i := 3) (ls2 := #[true, true, true, true, false, false, false, false, false, false, false, false, false, false, false, false, false, false, false, false, false, false, false, false, false]) (by kernel_rfl) rfl (by kernel_rfl) (by kernel_rfl) (fun K hK => ?_)
              go_simp
              refine hK.out _ _ ?_ (fun hS_ => ?_)
              · show Below WX.heap.size WX _
                exact hS
              clear hK K hS
              have hS : Below WX.heap.size WX _ := hS_
              clear hS_
              refine takeE 4 (some 64) #[true, true, true, true, true, false, false, false, false, false, false, false, false, false, false, false, false, false, false, false, false, false, false, false, false] hS ?_
              refine takeE 5 (some 65) #[true, true, true, true, true, true, false, false, false, false, false, false, false, false, false, false, false, false, false, false, false, false, false, false, false] hS ?_
              refine takeE 6 (some 66) #[true, true, true, true, true, true, true, false, false, false, false, false, false, false, false, false, false, false, false, false, false, false, false, false, false] hS ?_
              refine takeE 7 (some 67) #[true, true, true, true, true, true, true, true, false, false, false, false, false, false, false, false, false, false, false, false, false, false, false, false, false] hS ?_
              refine takeE 8 (some 68) #[true, true, true, true, true, true, true, true, true, false, false, false, false, false, false, false, false, false, false, false, false, false, false, false, false] hS ?_ (hy := fun w_ hS_ => by (replace hS_ : Below WX.heap.size WX w_ := hS_); have x0_ := below_cell (Below.trans HBR.out (hS_.mono HBR.out.size)) HXA.out; go_simp <;> with_reducible rfl)
              refine doD (i := 9) (ls2 := #[true, true, true, true, true, true, true, true, true, true, false, false, false, false, false, false, false, false, false, false, false, false, false, false, false]) (by kernel_rfl) rfl (by kernel_rfl) (by kernel_rfl) (fun K hK => ?_)
              go_simp
              refine hK.out _ _ ?_ (fun hS_ => ?_)
              · show Below WX.heap.size WX _
                exact hS
              clear hK K hS
              have hS : Below WX.heap.size WX _ := hS_
              clear hS_
              refine takeE 10 (some 70) #[true, true, true, true, true, true, true, true, true, true, true, false, false, false, false, false, false, false, false, false, false, false, false, false, false] hS ?_
              refine takeE 11 (some 71) #[true, true, true, true, true, true, true, true, true, true, true, true, false, false, false, false, false, false, false, false, false, false, false, false, false] hS ?_
              refine takeE 12 (some 72) #[true, true, true, true, true, true, true, true, true, true, true, true, true, false, false, false, false, false, false, false, false, false, false, false, false] hS ?_
              refine takeE 13 (some 73) #[true, true, true, true, true, true, true, true, true, true, true, true, true, true, false, false, false, false, false, false, false, false, false, false, false] hS ?_ (hy := fun w_ hS_ => by (replace hS_ : Below WX.heap.size WX w_ := hS_); have x0_ := below_cell (Below.trans HBR.out (hS_.mono HBR.out.size)) HXA.out; go_simp <;> with_reducible rfl)
              refine takeE 14 (some 74) #[true, true, true, true, true, true, true, true, true, true, true, true, true, true, true, false, false, false, false, false, false, false, false, false, false] hS ?_
              refine takeE 15 (some 75) #[true, true, true, true, true, true, true, true, true, true, true, true, true, true, true, true, false, false, false, false, false, false, false, false, false] hS ?_
              refine takeE 16 (some 76) #[true, true, true, true, true, true, true, true, true, true, true, true, true, true, true, true, true, false, false, false, false, false, false, false, false] hS ?_ (hy := fun w_ hS_ => by (replace hS_ : Below WX.heap.size WX w_ := hS_); have x0_ := below_cell (Below.trans HBR.out (hS_.mono HBR.out.size)) HX0.out; have x1_ := below_cell (Below.trans HBR.out (hS_.mono HBR.out.size)) HX1.out; have x2_ := below_cell (Below.trans HBR.out (hS_.mono HBR.out.size)) HX2.out; have x3_ := below_cell (Below.trans HBR.out (hS_.mono HBR.out.size)) HX3.out; have x4_ := below_cell (Below.trans HBR.out (hS_.mono HBR.out.size)) HX4.out; have x5_ := below_cell (Below.trans HBR.out (hS_.mono HBR.out.size)) HX5.out; have x6_ := below_cell (Below.trans HBR.out (hS_.mono HBR.out.size)) HX6.out; have x7_ := below_cell (Below.trans HBR.out (hS_.mono HBR.out.size)) HX7.out; have x8_ := below_cell (Below.trans HBR.out (hS_.mono HBR.out.size)) HX8.out; have x9_ := below_cell (Below.trans HBR.out (hS_.mono HBR.out.size)) HX9.out; have x10_ := below_cell (Below.trans HBR.out (hS_.mono HBR.out.size)) HX10.out; have x11_ := below_cell (Below.trans HBR.out (hS_.mono HBR.out.size)) HX11.out; go_simp <;> with_reducible rfl)
              refine takeE 17 (some 77) #[true, true, true, true, true, true, true, true, true, true, true, true, true, true, true, true, true, true, false, false, false, false, false, false, false] hS ?_
              refine takeE 18 (some 78) #[true, true, true, true, true, true, true, true, true, true, true, true, true, true, true, true, true, true, true, false, false, false, false, false, false] hS ?_ (hy := fun w_ hS_ => by (replace hS_ : Below WX.heap.size WX w_ := hS_); have x0_ := below_cell (Below.trans HBR.out (hS_.mono HBR.out.size)) HXB.out; go_simp <;> with_reducible rfl)
              refine takeE 19 (some 79) #[true, true, true, true, true, true, true, true, true, true, true, true, true, true, true, true, true, true, true, true, false, false, false, false, false] hS ?_
              refine takeE 20 (some 80) #[true, true, true, true, true, true, true, true, true, true, true, true, true, true, true, true, true, true, true, true, true, false, false, false, false] hS ?_
              refine takeE 21 (some 81) #[true, true, true, true, true, true, true, true, true, true, true, true, true, true, true, true, true, true, true, true, true, true, false, false, false] hS ?_ (hy := fun w_ hS_ => by (replace hS_ : Below WX.heap.size WX w_ := hS_); have x0_ := below_cell (Below.trans HBR.out (hS_.mono HBR.out.size)) HY0.out; have x1_ := below_cell (Below.trans HBR.out (hS_.mono HBR.out.size)) HY1.out; have x2_ := below_cell (Below.trans HBR.out (hS_.mono HBR.out.size)) HY2.out; have x3_ := below_cell (Below.trans HBR.out (hS_.mono HBR.out.size)) HY3.out; have x4_ := below_cell (Below.trans HBR.out (hS_.mono HBR.out.size)) HY4.out; have x5_ := below_cell (Below.trans HBR.out (hS_.mono HBR.out.size)) HY5.out; have x6_ := below_cell (Below.trans HBR.out (hS_.mono HBR.out.size)) HY6.out; have x7_ := below_cell (Below.trans HBR.out (hS_.mono HBR.out.size)) HY7.out; have x8_ := below_cell (Below.trans HBR.out (hS_.mono HBR.out.size)) HY8.out; have x9_ := below_cell (Below.trans HBR.out (hS_.mono HBR.out.size)) HY9.out; have x10_ := below_cell (Below.trans HBR.out (hS_.mono HBR.out.size)) HY10.out; have x11_ := below_cell (Below.trans HBR.out (hS_.mono HBR.out.size)) HY11.out; go_simp <;> with_reducible rfl)
              refine doD (i := 22) (ls2 := #[true, true, true, true, true, true, true, true, true, true, true, true, true, true, true, true, true, true, true, true, true, true, true, false, false]) (by kernel_rfl) rfl (by kernel_rfl) (by kernel_rfl) (fun K hK => ?_)
              go_simp
              go_wp2_with (first | (go_at_call 64; go_loud ((with_reducible refine (HAXY.out _).mono ?_); rintro e w3 ⟨rfl, hb3⟩)))
              refine hK.out _ _ ?_ (fun hS_ => ?_)
              · show Below WX.heap.size WX _
                exact hS.trans (hb3.mono hS.size)
              clear hK K hS hb3
              have hS : Below WX.heap.size WX _ := hS_
              clear hS_
              refine takeE 23 (some 83) #[true, true, true, true, true, true, true, true, true, true, true, true, true, true, true, true, true, true, true, true, true, true, true, true, false] hS ?_
              refine takeE 24 (some 84) #[true, true, true, true, true, true, true, true, true, true, true, true, true, true, true, true, true, true, true, true, true, true, true, true, true] hS ?_
              refine wpAnyH_done (by kernel_rfl) ?_ _
              try go_simp
              have HS9 := Lib.hid hS
              have HBS9 := Lib.hid (HBR.out.trans (hS.mono HBR.out.size))
              clear hS
              go_wp2
              have hp2 := fun w => putRef_calls 2 (by decide) (by decide) w
              obtain ⟨T, hT⟩ : ∃ T, numT 2 = T := ⟨_, rfl⟩
              rw [hT] at hp2
              have HP2 := Lib.hid hp2
              have HRR := Lib.hid (show tellG x = ⟨x.f0, x.f1, T⟩ from by unfold tellG; rw [hT])
              clear hp2 hT
              have hl5 : ol.length ≤ 1000 := by have := HE5.out; omega
              refine wp_region_held_drew (S := fun w_ => Below W2.heap.size W2 w_) (by kernel_rfl) (below_drew HBS9.out) (fun hS_ => ?_)
              have hS : Below W2.heap.size W2 _ := hS_
              clear hS_
              change wpAnyH _ _ _ _ _ 18 #[false, false, false, false, false, false, false, false, false, false, false, false, false, false, false, false, false, false] _ _
              refine takeE 0 (some 85) #[true, false, false, false, false, false, false, false, false, false, false, false, false, false, false, false, false, false] hS ?_
              refine takeE 1 (some 86) #[true, true, false, false, false, false, false, false, false, false, false, false, false, false, false, false, false, false] hS ?_
              refine takeE 2 (some 87) #[true, true, true, false, false, false, false, false, false, false, false, false, false, false, false, false, false, false] hS ?_ (hy := fun w_ hS_ => by (replace hS_ : Below W2.heap.size W2 w_ := hS_); have x0_ := below_cell hS_ HXA.out; go_simp <;> with_reducible rfl)
              refine takeE 3 (some 88) #[true, true, true, true, false, false, false, false, false, false, false, false, false, false, false, false, false, false] hS ?_
              refine takeE 4 (some 89) #[true, true, true, true, true, false, false, false, false, false, false, false, false, false, false, false, false, false] hS ?_
              refine takeE 5 (some 90) #[true, true, true, true, true, true, false, false, false, false, false, false, false, false, false, false, false, false] hS ?_
              refine takeE 6 (some 91) #[true, true, true, true, true, true, true, false, false, false, false, false, false, false, false, false, false, false] hS ?_ (hy := fun w_ hS_ => by (replace hS_ : Below W2.heap.size W2 w_ := hS_); have x0_ := below_cell hS_ HX0.out; go_simp <;> with_reducible rfl)
              refine takeE 7 (some 92) #[true, true, true, true, true, true, true, true, false, false, false, false, false, false, false, false, false, false] hS ?_
              refine takeE 8 (some 93) #[true, true, true, true, true, true, true, true, true, false, false, false, false, false, false, false, false, false] hS ?_ (hy := fun w_ hS_ => by (replace hS_ : Below W2.heap.size W2 w_ := hS_); have x0_ := below_cell hS_ HXA.out; go_simp <;> with_reducible rfl)
              refine takeE 9 (some 94) #[true, true, true, true, true, true, true, true, true, true, false, false, false, false, false, false, false, false] hS ?_
              refine takeE 10 (some 95) #[true, true, true, true, true, true, true, true, true, true, true, false, false, false, false, false, false, false] hS ?_
              refine takeE 11 (some 96) #[true, true, true, true, true, true, true, true, true, true, true, true, false, false, false, false, false, false] hS ?_
              refine takeE 12 (some 97) #[true, true, true, true, true, true, true, true, true, true, true, true, true, false, false, false, false, false] hS ?_ (hy := fun w_ hS_ => by (replace hS_ : Below W2.heap.size W2 w_ := hS_); have x0_ := below_cell hS_ HX1.out; go_simp <;> with_reducible rfl)
              refine doD (i := 13) (ls2 := #[true, true, true, true, true, true, true, true, true, true, true, true, true, true, false, false, false, false]) (by kernel_rfl) rfl (by kernel_rfl) (by kernel_rfl) (fun K hK => ?_)
              go_simp
              go_wp2_with (first | (go_at_call 50; go_loud ((with_reducible refine (HP2.out _).mono ?_); rintro e w6 ⟨rfl, hb6⟩)))
              have HS6 := Lib.hid (show Below w3.heap.size w3 w6 from (below_drew (Below.refl _ _)).trans hb6)
              refine hK.out _ _ ?_ (fun hS_ => ?_)
              · show Below W2.heap.size W2 _
                exact hS.trans (hb6.mono hS.size)
              clear hK K hS hb6
              have hS : Below W2.heap.size W2 _ := hS_
              clear hS_
              refine takeE 14 (some 99) #[true, true, true, true, true, true, true, true, true, true, true, true, true, true, true, false, false, false] hS ?_
              refine doD (i := 15) (ls2 := #[true, true, true, true, true, true, true, true, true, true, true, true, true, true, true, true, false, false]) (by kernel_rfl) rfl (by kernel_rfl) (by kernel_rfl) (fun K hK => ?_)
              go_simp
              refine hK.out _ _ ?_ (fun hS_ => ?_)
              · show Below W2.heap.size W2 _
                exact hS.alloc hS.size _
              clear hK K hS
              have hS : Below W2.heap.size W2 _ := hS_
              clear hS_
              have hba := (Below.refl w6.heap.size w6).alloc (Nat.le_refl _) (.cells #[.int .i64 x.f0, .int .i64 x.f1, .string T] 50)
              have HC8 := Lib.hid (show k50.C (w6.alloc (.cells #[.int .i64 x.f0, .int .i64 x.f1, .string T] 50)) (some ⟨w6.heap.size, 0, none⟩) 1 [(⟨x.f0, x.f1, T⟩ : S50)] from recs_C [(⟨x.f0, x.f1, T⟩ : S50)] (by simp) (heap_alloc_new _ _))
              have HR8 := Lib.hid (Kd.R_below (Kd.R_below (Kd.R_below HR5.out HS9.out) HS6.out) hba)
              have HB8 := Lib.hid hS
              clear hba
              refine doD (i := 16) (ls2 := #[true, true, true, true, true, true, true, true, true, true, true, true, true, true, true, true, true, false]) (by kernel_rfl) rfl (by kernel_rfl) (by kernel_rfl) (fun K hK => ?_)
              refine R_append_op k50 (w0 := W2) W2.heap.size (.tmp 85) (.tmp 100) 24 50 (.agg #[(.int .i64 0), (.int .i64 0), (.string ⟨#[]⟩)]) 32 rfl Try.underlying24 info50 rfl (by decide) (by omega) (.slice A5 n5 c5) ol [(⟨x.f0, x.f1, T⟩ : S50)] _ _ _ (fun _ => True) (fun _ => False) rfl rfl HR8.out HC8.out (fun _ _ h => by obtain rfl := k50_open h; exact k50_mkM _ _ _ _) (fun _ h => h.elim) (fun _ _ => trivial) HB8.out HB8.out.size (by have h_ := HE5.out; first | omega | (simp; done) | (simp; omega)) ?_
              intro v8 w8 hR8 hb8 hg8 hat8
              obtain ⟨A9, c9, hv9, hc9, _⟩ := Kd.R_reads hR8
              have hln : (ol ++ [(⟨x.f0, x.f1, T⟩ : S50)]).length = n5 + 1 := (by have h_ := HE5.out; simp only [List.length_append, List.length_cons, List.length_nil]; omega)
              rw [hln] at hv9
              subst hv9
              have HR9 := Lib.hid hR8
              have HB9 := Lib.hid hb8
              refine hK.out _ _ ?_ (fun hS_ => ?_)
              · show Below W2.heap.size W2 _
                exact hb8
              clear hK K hS hb8 hat8 hg8 hR8 hln
              have hS : Below W2.heap.size W2 _ := hS_
              clear hS_
              refine takeE 17 (some 5) #[true, true, true, true, true, true, true, true, true, true, true, true, true, true, true, true, true, true] hS ?_
              refine wpAnyH_done (by kernel_rfl) ?_ _
              try go_simp
              clear hS
              go_wp2
              go_roundg gk
              case measure => omega
              case rel =>
                exact ⟨i + 1, k, ol ++ [(⟨x.f0, x.f1, T⟩ : S50)], A9, c9, n5 + 1, rfl, by first | rfl | (congr 1), by first | rfl | (congr 1), by omega, by omega, by simp [HE5.out], HR9.out, HB9.out, by have h_ := HWK.out; rw [walk_l HQ1.out, HRR.out] at h_; rw [List.append_assoc]; rw [HDY.out]; exact h_, by omega, by omega⟩
            | false =>
              refine wp_region_held_drew (S := fun w_ => Below WX.heap.size WX w_) (by kernel_rfl) (below_drew (Below.refl _ _)) (fun hS_ => ?_)
              have hS : Below WX.heap.size WX _ := hS_
              clear hS_
              change wpAnyH _ _ _ _ _ 25 #[false, false, false, false, false, false, false, false, false, false, false, false, false, false, false, false, false, false, false, false, false, false, false, false, false] _ _
              refine takeE 0 (some 60) #[true, false, false, false, false, false, false, false, false, false, false, false, false, false, false, false, false, false, false, false, false, false, false, false, false] hS ?_
              refine takeE 1 (some 61) #[true, true, false, false, false, false, false, false, false, false, false, false, false, false, false, false, false, false, false, false, false, false, false, false, false] hS ?_
              refine takeE 2 (some 62) #[true, true, true, false, false, false, false, false, false, false, false, false, false, false, false, false, false, false, false, false, false, false, false, false, false] hS ?_ (hy := fun w_ hS_ => by (replace hS_ : Below WX.heap.size WX w_ := hS_); have x0_ := below_cell (Below.trans HBR.out (hS_.mono HBR.out.size)) HXB.out; go_simp <;> with_reducible rfl)
              refine doD (i := 3) (ls2 := #[true, true, true, true, false, false, false, false, false, false, false, false, false, false, false, false, false, false, false, false, false, false, false, false, false]) (by kernel_rfl) rfl (by kernel_rfl) (by kernel_rfl) (fun K hK => ?_)
              go_simp
              refine hK.out _ _ ?_ (fun hS_ => ?_)
              · show Below WX.heap.size WX _
                exact hS
              clear hK K hS
              have hS : Below WX.heap.size WX _ := hS_
              clear hS_
              refine takeE 4 (some 64) #[true, true, true, true, true, false, false, false, false, false, false, false, false, false, false, false, false, false, false, false, false, false, false, false, false] hS ?_
              refine takeE 5 (some 65) #[true, true, true, true, true, true, false, false, false, false, false, false, false, false, false, false, false, false, false, false, false, false, false, false, false] hS ?_
              refine takeE 6 (some 66) #[true, true, true, true, true, true, true, false, false, false, false, false, false, false, false, false, false, false, false, false, false, false, false, false, false] hS ?_
              refine takeE 7 (some 67) #[true, true, true, true, true, true, true, true, false, false, false, false, false, false, false, false, false, false, false, false, false, false, false, false, false] hS ?_
              refine takeE 8 (some 68) #[true, true, true, true, true, true, true, true, true, false, false, false, false, false, false, false, false, false, false, false, false, false, false, false, false] hS ?_ (hy := fun w_ hS_ => by (replace hS_ : Below WX.heap.size WX w_ := hS_); have x0_ := below_cell (Below.trans HBR.out (hS_.mono HBR.out.size)) HXA.out; go_simp <;> with_reducible rfl)
              refine doD (i := 9) (ls2 := #[true, true, true, true, true, true, true, true, true, true, false, false, false, false, false, false, false, false, false, false, false, false, false, false, false]) (by kernel_rfl) rfl (by kernel_rfl) (by kernel_rfl) (fun K hK => ?_)
              go_simp
              refine hK.out _ _ ?_ (fun hS_ => ?_)
              · show Below WX.heap.size WX _
                exact hS
              clear hK K hS
              have hS : Below WX.heap.size WX _ := hS_
              clear hS_
              refine takeE 10 (some 70) #[true, true, true, true, true, true, true, true, true, true, true, false, false, false, false, false, false, false, false, false, false, false, false, false, false] hS ?_
              refine takeE 11 (some 71) #[true, true, true, true, true, true, true, true, true, true, true, true, false, false, false, false, false, false, false, false, false, false, false, false, false] hS ?_
              refine takeE 12 (some 72) #[true, true, true, true, true, true, true, true, true, true, true, true, true, false, false, false, false, false, false, false, false, false, false, false, false] hS ?_
              refine takeE 13 (some 73) #[true, true, true, true, true, true, true, true, true, true, true, true, true, true, false, false, false, false, false, false, false, false, false, false, false] hS ?_ (hy := fun w_ hS_ => by (replace hS_ : Below WX.heap.size WX w_ := hS_); have x0_ := below_cell (Below.trans HBR.out (hS_.mono HBR.out.size)) HXA.out; go_simp <;> with_reducible rfl)
              refine takeE 14 (some 74) #[true, true, true, true, true, true, true, true, true, true, true, true, true, true, true, false, false, false, false, false, false, false, false, false, false] hS ?_
              refine takeE 15 (some 75) #[true, true, true, true, true, true, true, true, true, true, true, true, true, true, true, true, false, false, false, false, false, false, false, false, false] hS ?_
              refine takeE 16 (some 76) #[true, true, true, true, true, true, true, true, true, true, true, true, true, true, true, true, true, false, false, false, false, false, false, false, false] hS ?_ (hy := fun w_ hS_ => by (replace hS_ : Below WX.heap.size WX w_ := hS_); have x0_ := below_cell (Below.trans HBR.out (hS_.mono HBR.out.size)) HX0.out; have x1_ := below_cell (Below.trans HBR.out (hS_.mono HBR.out.size)) HX1.out; have x2_ := below_cell (Below.trans HBR.out (hS_.mono HBR.out.size)) HX2.out; have x3_ := below_cell (Below.trans HBR.out (hS_.mono HBR.out.size)) HX3.out; have x4_ := below_cell (Below.trans HBR.out (hS_.mono HBR.out.size)) HX4.out; have x5_ := below_cell (Below.trans HBR.out (hS_.mono HBR.out.size)) HX5.out; have x6_ := below_cell (Below.trans HBR.out (hS_.mono HBR.out.size)) HX6.out; have x7_ := below_cell (Below.trans HBR.out (hS_.mono HBR.out.size)) HX7.out; have x8_ := below_cell (Below.trans HBR.out (hS_.mono HBR.out.size)) HX8.out; have x9_ := below_cell (Below.trans HBR.out (hS_.mono HBR.out.size)) HX9.out; have x10_ := below_cell (Below.trans HBR.out (hS_.mono HBR.out.size)) HX10.out; have x11_ := below_cell (Below.trans HBR.out (hS_.mono HBR.out.size)) HX11.out; go_simp <;> with_reducible rfl)
              refine takeE 17 (some 77) #[true, true, true, true, true, true, true, true, true, true, true, true, true, true, true, true, true, true, false, false, false, false, false, false, false] hS ?_
              refine takeE 18 (some 78) #[true, true, true, true, true, true, true, true, true, true, true, true, true, true, true, true, true, true, true, false, false, false, false, false, false] hS ?_ (hy := fun w_ hS_ => by (replace hS_ : Below WX.heap.size WX w_ := hS_); have x0_ := below_cell (Below.trans HBR.out (hS_.mono HBR.out.size)) HXB.out; go_simp <;> with_reducible rfl)
              refine takeE 19 (some 79) #[true, true, true, true, true, true, true, true, true, true, true, true, true, true, true, true, true, true, true, true, false, false, false, false, false] hS ?_
              refine takeE 20 (some 80) #[true, true, true, true, true, true, true, true, true, true, true, true, true, true, true, true, true, true, true, true, true, false, false, false, false] hS ?_
              refine takeE 21 (some 81) #[true, true, true, true, true, true, true, true, true, true, true, true, true, true, true, true, true, true, true, true, true, true, false, false, false] hS ?_ (hy := fun w_ hS_ => by (replace hS_ : Below WX.heap.size WX w_ := hS_); have x0_ := below_cell (Below.trans HBR.out (hS_.mono HBR.out.size)) HY0.out; have x1_ := below_cell (Below.trans HBR.out (hS_.mono HBR.out.size)) HY1.out; have x2_ := below_cell (Below.trans HBR.out (hS_.mono HBR.out.size)) HY2.out; have x3_ := below_cell (Below.trans HBR.out (hS_.mono HBR.out.size)) HY3.out; have x4_ := below_cell (Below.trans HBR.out (hS_.mono HBR.out.size)) HY4.out; have x5_ := below_cell (Below.trans HBR.out (hS_.mono HBR.out.size)) HY5.out; have x6_ := below_cell (Below.trans HBR.out (hS_.mono HBR.out.size)) HY6.out; have x7_ := below_cell (Below.trans HBR.out (hS_.mono HBR.out.size)) HY7.out; have x8_ := below_cell (Below.trans HBR.out (hS_.mono HBR.out.size)) HY8.out; have x9_ := below_cell (Below.trans HBR.out (hS_.mono HBR.out.size)) HY9.out; have x10_ := below_cell (Below.trans HBR.out (hS_.mono HBR.out.size)) HY10.out; have x11_ := below_cell (Below.trans HBR.out (hS_.mono HBR.out.size)) HY11.out; go_simp <;> with_reducible rfl)
              refine doD (i := 22) (ls2 := #[true, true, true, true, true, true, true, true, true, true, true, true, true, true, true, true, true, true, true, true, true, true, true, false, false]) (by kernel_rfl) rfl (by kernel_rfl) (by kernel_rfl) (fun K hK => ?_)
              go_simp
              go_wp2_with (first | (go_at_call 64; go_loud ((with_reducible refine (HAXY.out _).mono ?_); rintro e w3 ⟨rfl, hb3⟩)))
              refine hK.out _ _ ?_ (fun hS_ => ?_)
              · show Below WX.heap.size WX _
                exact hS.trans (hb3.mono hS.size)
              clear hK K hS hb3
              have hS : Below WX.heap.size WX _ := hS_
              clear hS_
              refine takeE 23 (some 83) #[true, true, true, true, true, true, true, true, true, true, true, true, true, true, true, true, true, true, true, true, true, true, true, true, false] hS ?_
              refine takeE 24 (some 84) #[true, true, true, true, true, true, true, true, true, true, true, true, true, true, true, true, true, true, true, true, true, true, true, true, true] hS ?_
              refine wpAnyH_done (by kernel_rfl) ?_ _
              try go_simp
              have HS9 := Lib.hid hS
              have HBS9 := Lib.hid (HBR.out.trans (hS.mono HBR.out.size))
              clear hS
              go_wp2
              cases q2 with
              | true =>
                refine wp_region_held_drew (S := fun w_ => Below w3.heap.size w3 w_) (by kernel_rfl) (below_drew (Below.refl _ _)) (fun hS_ => ?_)
                have hS : Below w3.heap.size w3 _ := hS_
                clear hS_
                change wpAnyH _ _ _ _ _ 18 #[false, false, false, false, false, false, false, false, false, false, false, false, false, false, false, false, false, false] _ _
                refine takeE 0 (some 104) #[true, false, false, false, false, false, false, false, false, false, false, false, false, false, false, false, false, false] hS ?_
                refine takeE 1 (some 105) #[true, true, false, false, false, false, false, false, false, false, false, false, false, false, false, false, false, false] hS ?_
                refine takeE 2 (some 106) #[true, true, true, false, false, false, false, false, false, false, false, false, false, false, false, false, false, false] hS ?_ (hy := fun w_ hS_ => by (replace hS_ : Below w3.heap.size w3 w_ := hS_); have x0_ := below_cell (Below.trans HBS9.out (hS_.mono HBS9.out.size)) HXA.out; go_simp <;> with_reducible rfl)
                refine doD (i := 3) (ls2 := #[true, true, true, true, false, false, false, false, false, false, false, false, false, false, false, false, false, false]) (by kernel_rfl) rfl (by kernel_rfl) (by kernel_rfl) (fun K hK => ?_)
                go_simp
                refine hK.out _ _ ?_ (fun hS_ => ?_)
                · show Below w3.heap.size w3 _
                  exact hS
                clear hK K hS
                have hS : Below w3.heap.size w3 _ := hS_
                clear hS_
                refine takeE 4 (some 108) #[true, true, true, true, true, false, false, false, false, false, false, false, false, false, false, false, false, false] hS ?_
                refine takeE 5 (some 109) #[true, true, true, true, true, true, false, false, false, false, false, false, false, false, false, false, false, false] hS ?_
                refine takeE 6 (some 110) #[true, true, true, true, true, true, true, false, false, false, false, false, false, false, false, false, false, false] hS ?_
                refine takeE 7 (some 111) #[true, true, true, true, true, true, true, true, false, false, false, false, false, false, false, false, false, false] hS ?_ (hy := fun w_ hS_ => by (replace hS_ : Below w3.heap.size w3 w_ := hS_); have x0_ := below_cell (Below.trans HBS9.out (hS_.mono HBS9.out.size)) HXB.out; go_simp <;> with_reducible rfl)
                refine takeE 8 (some 112) #[true, true, true, true, true, true, true, true, true, false, false, false, false, false, false, false, false, false] hS ?_
                refine takeE 9 (some 113) #[true, true, true, true, true, true, true, true, true, true, false, false, false, false, false, false, false, false] hS ?_
                refine takeE 10 (some 114) #[true, true, true, true, true, true, true, true, true, true, true, false, false, false, false, false, false, false] hS ?_ (hy := fun w_ hS_ => by (replace hS_ : Below w3.heap.size w3 w_ := hS_); have x0_ := below_cell (Below.trans HBS9.out (hS_.mono HBS9.out.size)) HY0.out; have x1_ := below_cell (Below.trans HBS9.out (hS_.mono HBS9.out.size)) HY1.out; have x2_ := below_cell (Below.trans HBS9.out (hS_.mono HBS9.out.size)) HY2.out; have x3_ := below_cell (Below.trans HBS9.out (hS_.mono HBS9.out.size)) HY3.out; have x4_ := below_cell (Below.trans HBS9.out (hS_.mono HBS9.out.size)) HY4.out; have x5_ := below_cell (Below.trans HBS9.out (hS_.mono HBS9.out.size)) HY5.out; have x6_ := below_cell (Below.trans HBS9.out (hS_.mono HBS9.out.size)) HY6.out; have x7_ := below_cell (Below.trans HBS9.out (hS_.mono HBS9.out.size)) HY7.out; have x8_ := below_cell (Below.trans HBS9.out (hS_.mono HBS9.out.size)) HY8.out; have x9_ := below_cell (Below.trans HBS9.out (hS_.mono HBS9.out.size)) HY9.out; have x10_ := below_cell (Below.trans HBS9.out (hS_.mono HBS9.out.size)) HY10.out; have x11_ := below_cell (Below.trans HBS9.out (hS_.mono HBS9.out.size)) HY11.out; go_simp <;> with_reducible rfl)
                refine takeE 11 (some 115) #[true, true, true, true, true, true, true, true, true, true, true, true, false, false, false, false, false, false] hS ?_
                refine takeE 12 (some 116) #[true, true, true, true, true, true, true, true, true, true, true, true, true, false, false, false, false, false] hS ?_ (hy := fun w_ hS_ => by (replace hS_ : Below w3.heap.size w3 w_ := hS_); have x0_ := below_cell (Below.trans HBS9.out (hS_.mono HBS9.out.size)) HXA.out; go_simp <;> with_reducible rfl)
                refine takeE 13 (some 117) #[true, true, true, true, true, true, true, true, true, true, true, true, true, true, false, false, false, false] hS ?_
                refine takeE 14 (some 118) #[true, true, true, true, true, true, true, true, true, true, true, true, true, true, true, false, false, false] hS ?_
                refine takeE 15 (some 119) #[true, true, true, true, true, true, true, true, true, true, true, true, true, true, true, true, false, false] hS ?_ (hy := fun w_ hS_ => by (replace hS_ : Below w3.heap.size w3 w_ := hS_); have x0_ := below_cell (Below.trans HBS9.out (hS_.mono HBS9.out.size)) HX0.out; have x1_ := below_cell (Below.trans HBS9.out (hS_.mono HBS9.out.size)) HX1.out; have x2_ := below_cell (Below.trans HBS9.out (hS_.mono HBS9.out.size)) HX2.out; have x3_ := below_cell (Below.trans HBS9.out (hS_.mono HBS9.out.size)) HX3.out; have x4_ := below_cell (Below.trans HBS9.out (hS_.mono HBS9.out.size)) HX4.out; have x5_ := below_cell (Below.trans HBS9.out (hS_.mono HBS9.out.size)) HX5.out; have x6_ := below_cell (Below.trans HBS9.out (hS_.mono HBS9.out.size)) HX6.out; have x7_ := below_cell (Below.trans HBS9.out (hS_.mono HBS9.out.size)) HX7.out; have x8_ := below_cell (Below.trans HBS9.out (hS_.mono HBS9.out.size)) HX8.out; have x9_ := below_cell (Below.trans HBS9.out (hS_.mono HBS9.out.size)) HX9.out; have x10_ := below_cell (Below.trans HBS9.out (hS_.mono HBS9.out.size)) HX10.out; have x11_ := below_cell (Below.trans HBS9.out (hS_.mono HBS9.out.size)) HX11.out; go_simp <;> with_reducible rfl)
                refine doD (i := 16) (ls2 := #[true, true, true, true, true, true, true, true, true, true, true, true, true, true, true, true, true, false]) (by kernel_rfl) rfl (by kernel_rfl) (by kernel_rfl) (fun K hK => ?_)
                go_simp
                go_wp2_with (first | (go_at_call 64; go_loud ((with_reducible refine (HAYX.out _).mono ?_); rintro e w4 ⟨rfl, hb4⟩)))
                refine hK.out _ _ ?_ (fun hS_ => ?_)
                · show Below w3.heap.size w3 _
                  exact hS.trans (hb4.mono hS.size)
                clear hK K hS hb4
                have hS : Below w3.heap.size w3 _ := hS_
                clear hS_
                refine takeE 17 (some 121) #[true, true, true, true, true, true, true, true, true, true, true, true, true, true, true, true, true, true] hS ?_
                refine wpAnyH_done (by kernel_rfl) ?_ _
                try go_simp
                have HS12 := Lib.hid (Below.trans HS9.out (hS.mono HS9.out.size))
                have HBS12 := Lib.hid (HBR.out.trans (HS12.out.mono HBR.out.size))
                clear hS
                obtain ⟨r, hr⟩ : ∃ r, tellH y = r := ⟨_, rfl⟩
                have htell := fun w => there_calls y HMY.out w
                rw [hr] at htell
                have HTELL := Lib.hid htell
                have HRR := Lib.hid (show tellH y = ⟨r.f0, r.f1, r.f2⟩ from hr)
                clear htell hr
                have x0 := below_cell HBS12.out HY0.out
                have x1 := below_cell HBS12.out HY1.out
                have x2 := below_cell HBS12.out HY2.out
                have x3 := below_cell HBS12.out HY3.out
                have x4 := below_cell HBS12.out HY4.out
                have x5 := below_cell HBS12.out HY5.out
                have x6 := below_cell HBS12.out HY6.out
                have x7 := below_cell HBS12.out HY7.out
                have x8 := below_cell HBS12.out HY8.out
                have x9 := below_cell HBS12.out HY9.out
                have x10 := below_cell HBS12.out HY10.out
                have x11 := below_cell HBS12.out HY11.out
                have xb := below_cell HBS12.out HXB.out
                have hl5 : ol.length ≤ 1000 := by have := HE5.out; omega
                go_wp2_with (first | (go_at_call 65; go_loud ((with_reducible refine (HTELL.out _).mono ?_); rintro e w6 ⟨rfl, hb6⟩; have hba := (Below.refl w6.heap.size w6).alloc (Nat.le_refl _) (.cells #[.int .i64 r.f0, .int .i64 r.f1, .string r.f2] 50); have HC8 := Lib.hid (show k50.C (w6.alloc (.cells #[.int .i64 r.f0, .int .i64 r.f1, .string r.f2] 50)) (some ⟨w6.heap.size, 0, none⟩) 1 [(⟨r.f0, r.f1, r.f2⟩ : S50)] from recs_C [(⟨r.f0, r.f1, r.f2⟩ : S50)] (by simp) (heap_alloc_new _ _)); have hbz := HS12.out.trans ((hb6.trans (hba.mono hb6.size)).mono HS12.out.size); have HR8 := Lib.hid (Kd.R_below HR5.out hbz); have HB8 := Lib.hid (HBR.out.trans (hbz.mono HBR.out.size)); clear hba hb6 hbz)) | ((with_reducible refine gate_builtin (b := .append) (xs := #[.tmp 122, .tmp 129]) rfl ?_); (try (refine gate_guard (by rfl) ?_; dsimp only)); at_builtin; go_loud (refine Kd.R_append_rows k50 (w0 := W2) W2.heap.size rfl (.tmp 122) (.tmp 129) 24 50 (.agg #[(.int .i64 0), (.int .i64 0), (.string ⟨#[]⟩)]) 32 rfl Try.underlying24 info50 rfl (by decide) (by omega) (.slice A5 n5 c5) ol [(⟨r.f0, r.f1, r.f2⟩ : S50)] _ _ _ (fun _ => True) (fun _ => False) rfl rfl HR8.out HC8.out (fun _ _ h => by obtain rfl := k50_open h; exact k50_mkM _ _ _ _) (fun _ h => h.elim) (fun _ _ => trivial) HB8.out HB8.out.size ?aL ?_; (case aL => have h_ := HE5.out; first | omega | (simp; done) | (simp; omega)); intro v8 w8 hR8 hb8 hg8 hat8; obtain ⟨A9, c9, hv9, hc9, _⟩ := Kd.R_reads hR8; have hln : (ol ++ [(⟨r.f0, r.f1, r.f2⟩ : S50)]).length = n5 + 1 := (by have h_ := HE5.out; simp only [List.length_append, List.length_cons, List.length_nil]; omega); rw [hln] at hv9; subst hv9; have HR9 := Lib.hid hR8; have HB9 := Lib.hid hb8; clear hg8 hat8 hln hR8; clear hb8)))
                go_wp2
                go_roundg gk
                case measure => omega
                case rel =>
                  exact ⟨i, k + 1, ol ++ [(⟨r.f0, r.f1, r.f2⟩ : S50)], A9, c9, n5 + 1, rfl, by first | rfl | (congr 1), by first | rfl | (congr 1), by omega, by omega, by simp [HE5.out], HR9.out, HB9.out, by have h_ := HWK.out; rw [walk_r HQ1.out HQ2.out, HRR.out] at h_; rw [List.append_assoc]; rw [HDX.out]; exact h_, by omega, by omega⟩
              | false =>
                refine wp_region_held_drew (S := fun w_ => Below w3.heap.size w3 w_) (by kernel_rfl) (below_drew (Below.refl _ _)) (fun hS_ => ?_)
                have hS : Below w3.heap.size w3 _ := hS_
                clear hS_
                change wpAnyH _ _ _ _ _ 18 #[false, false, false, false, false, false, false, false, false, false, false, false, false, false, false, false, false, false] _ _
                refine takeE 0 (some 104) #[true, false, false, false, false, false, false, false, false, false, false, false, false, false, false, false, false, false] hS ?_
                refine takeE 1 (some 105) #[true, true, false, false, false, false, false, false, false, false, false, false, false, false, false, false, false, false] hS ?_
                refine takeE 2 (some 106) #[true, true, true, false, false, false, false, false, false, false, false, false, false, false, false, false, false, false] hS ?_ (hy := fun w_ hS_ => by (replace hS_ : Below w3.heap.size w3 w_ := hS_); have x0_ := below_cell (Below.trans HBS9.out (hS_.mono HBS9.out.size)) HXA.out; go_simp <;> with_reducible rfl)
                refine doD (i := 3) (ls2 := #[true, true, true, true, false, false, false, false, false, false, false, false, false, false, false, false, false, false]) (by kernel_rfl) rfl (by kernel_rfl) (by kernel_rfl) (fun K hK => ?_)
                go_simp
                refine hK.out _ _ ?_ (fun hS_ => ?_)
                · show Below w3.heap.size w3 _
                  exact hS
                clear hK K hS
                have hS : Below w3.heap.size w3 _ := hS_
                clear hS_
                refine takeE 4 (some 108) #[true, true, true, true, true, false, false, false, false, false, false, false, false, false, false, false, false, false] hS ?_
                refine takeE 5 (some 109) #[true, true, true, true, true, true, false, false, false, false, false, false, false, false, false, false, false, false] hS ?_
                refine takeE 6 (some 110) #[true, true, true, true, true, true, true, false, false, false, false, false, false, false, false, false, false, false] hS ?_
                refine takeE 7 (some 111) #[true, true, true, true, true, true, true, true, false, false, false, false, false, false, false, false, false, false] hS ?_ (hy := fun w_ hS_ => by (replace hS_ : Below w3.heap.size w3 w_ := hS_); have x0_ := below_cell (Below.trans HBS9.out (hS_.mono HBS9.out.size)) HXB.out; go_simp <;> with_reducible rfl)
                refine takeE 8 (some 112) #[true, true, true, true, true, true, true, true, true, false, false, false, false, false, false, false, false, false] hS ?_
                refine takeE 9 (some 113) #[true, true, true, true, true, true, true, true, true, true, false, false, false, false, false, false, false, false] hS ?_
                refine takeE 10 (some 114) #[true, true, true, true, true, true, true, true, true, true, true, false, false, false, false, false, false, false] hS ?_ (hy := fun w_ hS_ => by (replace hS_ : Below w3.heap.size w3 w_ := hS_); have x0_ := below_cell (Below.trans HBS9.out (hS_.mono HBS9.out.size)) HY0.out; have x1_ := below_cell (Below.trans HBS9.out (hS_.mono HBS9.out.size)) HY1.out; have x2_ := below_cell (Below.trans HBS9.out (hS_.mono HBS9.out.size)) HY2.out; have x3_ := below_cell (Below.trans HBS9.out (hS_.mono HBS9.out.size)) HY3.out; have x4_ := below_cell (Below.trans HBS9.out (hS_.mono HBS9.out.size)) HY4.out; have x5_ := below_cell (Below.trans HBS9.out (hS_.mono HBS9.out.size)) HY5.out; have x6_ := below_cell (Below.trans HBS9.out (hS_.mono HBS9.out.size)) HY6.out; have x7_ := below_cell (Below.trans HBS9.out (hS_.mono HBS9.out.size)) HY7.out; have x8_ := below_cell (Below.trans HBS9.out (hS_.mono HBS9.out.size)) HY8.out; have x9_ := below_cell (Below.trans HBS9.out (hS_.mono HBS9.out.size)) HY9.out; have x10_ := below_cell (Below.trans HBS9.out (hS_.mono HBS9.out.size)) HY10.out; have x11_ := below_cell (Below.trans HBS9.out (hS_.mono HBS9.out.size)) HY11.out; go_simp <;> with_reducible rfl)
                refine takeE 11 (some 115) #[true, true, true, true, true, true, true, true, true, true, true, true, false, false, false, false, false, false] hS ?_
                refine takeE 12 (some 116) #[true, true, true, true, true, true, true, true, true, true, true, true, true, false, false, false, false, false] hS ?_ (hy := fun w_ hS_ => by (replace hS_ : Below w3.heap.size w3 w_ := hS_); have x0_ := below_cell (Below.trans HBS9.out (hS_.mono HBS9.out.size)) HXA.out; go_simp <;> with_reducible rfl)
                refine takeE 13 (some 117) #[true, true, true, true, true, true, true, true, true, true, true, true, true, true, false, false, false, false] hS ?_
                refine takeE 14 (some 118) #[true, true, true, true, true, true, true, true, true, true, true, true, true, true, true, false, false, false] hS ?_
                refine takeE 15 (some 119) #[true, true, true, true, true, true, true, true, true, true, true, true, true, true, true, true, false, false] hS ?_ (hy := fun w_ hS_ => by (replace hS_ : Below w3.heap.size w3 w_ := hS_); have x0_ := below_cell (Below.trans HBS9.out (hS_.mono HBS9.out.size)) HX0.out; have x1_ := below_cell (Below.trans HBS9.out (hS_.mono HBS9.out.size)) HX1.out; have x2_ := below_cell (Below.trans HBS9.out (hS_.mono HBS9.out.size)) HX2.out; have x3_ := below_cell (Below.trans HBS9.out (hS_.mono HBS9.out.size)) HX3.out; have x4_ := below_cell (Below.trans HBS9.out (hS_.mono HBS9.out.size)) HX4.out; have x5_ := below_cell (Below.trans HBS9.out (hS_.mono HBS9.out.size)) HX5.out; have x6_ := below_cell (Below.trans HBS9.out (hS_.mono HBS9.out.size)) HX6.out; have x7_ := below_cell (Below.trans HBS9.out (hS_.mono HBS9.out.size)) HX7.out; have x8_ := below_cell (Below.trans HBS9.out (hS_.mono HBS9.out.size)) HX8.out; have x9_ := below_cell (Below.trans HBS9.out (hS_.mono HBS9.out.size)) HX9.out; have x10_ := below_cell (Below.trans HBS9.out (hS_.mono HBS9.out.size)) HX10.out; have x11_ := below_cell (Below.trans HBS9.out (hS_.mono HBS9.out.size)) HX11.out; go_simp <;> with_reducible rfl)
                refine doD (i := 16) (ls2 := #[true, true, true, true, true, true, true, true, true, true, true, true, true, true, true, true, true, false]) (by kernel_rfl) rfl (by kernel_rfl) (by kernel_rfl) (fun K hK => ?_)
                go_simp
                go_wp2_with (first | (go_at_call 64; go_loud ((with_reducible refine (HAYX.out _).mono ?_); rintro e w4 ⟨rfl, hb4⟩)))
                refine hK.out _ _ ?_ (fun hS_ => ?_)
                · show Below w3.heap.size w3 _
                  exact hS.trans (hb4.mono hS.size)
                clear hK K hS hb4
                have hS : Below w3.heap.size w3 _ := hS_
                clear hS_
                refine takeE 17 (some 121) #[true, true, true, true, true, true, true, true, true, true, true, true, true, true, true, true, true, true] hS ?_
                refine wpAnyH_done (by kernel_rfl) ?_ _
                try go_simp
                have HS12 := Lib.hid (Below.trans HS9.out (hS.mono HS9.out.size))
                have HBS12 := Lib.hid (HBR.out.trans (HS12.out.mono HBR.out.size))
                clear hS
                go_wp2
                refine wp_region_held_drew (S := fun w_ => Below w4.heap.size w4 w_) (by kernel_rfl) (below_drew (Below.refl _ _)) (fun hS_ => ?_)
                have hS : Below w4.heap.size w4 _ := hS_
                clear hS_
                change wpAnyH _ _ _ _ _ 11 #[false, false, false, false, false, false, false, false, false, false, false] _ _
                refine takeE 0 (some 133) #[true, false, false, false, false, false, false, false, false, false, false] hS ?_
                refine takeE 1 (some 134) #[true, true, false, false, false, false, false, false, false, false, false] hS ?_ (hy := fun w_ hS_ => by (replace hS_ : Below w4.heap.size w4 w_ := hS_); have x0_ := below_cell (Below.trans HBS12.out (hS_.mono HBS12.out.size)) HXA.out; go_simp <;> with_reducible rfl)
                refine takeE 2 (some 135) #[true, true, true, false, false, false, false, false, false, false, false] hS ?_
                refine takeE 3 (some 136) #[true, true, true, true, false, false, false, false, false, false, false] hS ?_
                refine takeE 4 (some 137) #[true, true, true, true, true, false, false, false, false, false, false] hS ?_ (hy := fun w_ hS_ => by (replace hS_ : Below w4.heap.size w4 w_ := hS_); have x0_ := below_cell (Below.trans HBS12.out (hS_.mono HBS12.out.size)) HX0.out; have x1_ := below_cell (Below.trans HBS12.out (hS_.mono HBS12.out.size)) HX1.out; have x2_ := below_cell (Below.trans HBS12.out (hS_.mono HBS12.out.size)) HX2.out; have x3_ := below_cell (Below.trans HBS12.out (hS_.mono HBS12.out.size)) HX3.out; have x4_ := below_cell (Below.trans HBS12.out (hS_.mono HBS12.out.size)) HX4.out; have x5_ := below_cell (Below.trans HBS12.out (hS_.mono HBS12.out.size)) HX5.out; have x6_ := below_cell (Below.trans HBS12.out (hS_.mono HBS12.out.size)) HX6.out; have x7_ := below_cell (Below.trans HBS12.out (hS_.mono HBS12.out.size)) HX7.out; have x8_ := below_cell (Below.trans HBS12.out (hS_.mono HBS12.out.size)) HX8.out; have x9_ := below_cell (Below.trans HBS12.out (hS_.mono HBS12.out.size)) HX9.out; have x10_ := below_cell (Below.trans HBS12.out (hS_.mono HBS12.out.size)) HX10.out; have x11_ := below_cell (Below.trans HBS12.out (hS_.mono HBS12.out.size)) HX11.out; go_simp <;> with_reducible rfl)
                refine takeE 5 (some 138) #[true, true, true, true, true, true, false, false, false, false, false] hS ?_
                refine takeE 6 (some 139) #[true, true, true, true, true, true, true, false, false, false, false] hS ?_ (hy := fun w_ hS_ => by (replace hS_ : Below w4.heap.size w4 w_ := hS_); have x0_ := below_cell (Below.trans HBS12.out (hS_.mono HBS12.out.size)) HXB.out; go_simp <;> with_reducible rfl)
                refine takeE 7 (some 140) #[true, true, true, true, true, true, true, true, false, false, false] hS ?_
                refine takeE 8 (some 141) #[true, true, true, true, true, true, true, true, true, false, false] hS ?_
                refine takeE 9 (some 142) #[true, true, true, true, true, true, true, true, true, true, false] hS ?_ (hy := fun w_ hS_ => by (replace hS_ : Below w4.heap.size w4 w_ := hS_); have x0_ := below_cell (Below.trans HBS12.out (hS_.mono HBS12.out.size)) HY0.out; have x1_ := below_cell (Below.trans HBS12.out (hS_.mono HBS12.out.size)) HY1.out; have x2_ := below_cell (Below.trans HBS12.out (hS_.mono HBS12.out.size)) HY2.out; have x3_ := below_cell (Below.trans HBS12.out (hS_.mono HBS12.out.size)) HY3.out; have x4_ := below_cell (Below.trans HBS12.out (hS_.mono HBS12.out.size)) HY4.out; have x5_ := below_cell (Below.trans HBS12.out (hS_.mono HBS12.out.size)) HY5.out; have x6_ := below_cell (Below.trans HBS12.out (hS_.mono HBS12.out.size)) HY6.out; have x7_ := below_cell (Below.trans HBS12.out (hS_.mono HBS12.out.size)) HY7.out; have x8_ := below_cell (Below.trans HBS12.out (hS_.mono HBS12.out.size)) HY8.out; have x9_ := below_cell (Below.trans HBS12.out (hS_.mono HBS12.out.size)) HY9.out; have x10_ := below_cell (Below.trans HBS12.out (hS_.mono HBS12.out.size)) HY10.out; have x11_ := below_cell (Below.trans HBS12.out (hS_.mono HBS12.out.size)) HY11.out; go_simp <;> with_reducible rfl)
                refine takeE 10 (some 143) #[true, true, true, true, true, true, true, true, true, true, true] hS ?_ (hy := fun w_ hS_ => by have eq_ := HEQ.out; go_simp <;> with_reducible rfl)
                refine wpAnyH_done (by kernel_rfl) ?_ _
                try go_simp
                have HS5 := Lib.hid (Below.trans HS12.out (hS.mono HS12.out.size))
                have HBS5 := Lib.hid (HBR.out.trans (HS5.out.mono HBR.out.size))
                clear hS
                cases q3 with
                | true =>
                  go_wp2
                  go_roundg gk
                  case measure => omega
                  case rel =>
                    exact ⟨i + 1, k + 1, ol, A5, c5, n5, rfl, by first | rfl | (congr 1), by first | rfl | (congr 1), by omega, by omega, HE5.out, Kd.R_below HR5.out HS5.out, HBS5.out, by have h_ := HWK.out; rw [walk_e HQ1.out HQ2.out HQ3.out] at h_; exact h_, by omega, by omega⟩
                | false =>
                  obtain ⟨r, hr⟩ : ∃ r, tellH y = r := ⟨_, rfl⟩
                  have htell := fun w => there_calls y HMY.out w
                  rw [hr] at htell
                  have HTELL := Lib.hid htell
                  have HRR := Lib.hid (show tellH y = ⟨r.f0, r.f1, r.f2⟩ from hr)
                  clear htell hr
                  have x0 := below_cell HBS5.out HY0.out
                  have x1 := below_cell HBS5.out HY1.out
                  have x2 := below_cell HBS5.out HY2.out
                  have x3 := below_cell HBS5.out HY3.out
                  have x4 := below_cell HBS5.out HY4.out
                  have x5 := below_cell HBS5.out HY5.out
                  have x6 := below_cell HBS5.out HY6.out
                  have x7 := below_cell HBS5.out HY7.out
                  have x8 := below_cell HBS5.out HY8.out
                  have x9 := below_cell HBS5.out HY9.out
                  have x10 := below_cell HBS5.out HY10.out
                  have x11 := below_cell HBS5.out HY11.out
                  have xb := below_cell HBS5.out HXB.out
                  have hl5 : ol.length ≤ 1000 := by have := HE5.out; omega
                  go_wp2_with (first | (go_at_call 65; go_loud ((with_reducible refine (HTELL.out _).mono ?_); rintro e w6 ⟨rfl, hb6⟩; have hba := (Below.refl w6.heap.size w6).alloc (Nat.le_refl _) (.cells #[.int .i64 r.f0, .int .i64 r.f1, .string r.f2] 50); have HC8 := Lib.hid (show k50.C (w6.alloc (.cells #[.int .i64 r.f0, .int .i64 r.f1, .string r.f2] 50)) (some ⟨w6.heap.size, 0, none⟩) 1 [(⟨r.f0, r.f1, r.f2⟩ : S50)] from recs_C [(⟨r.f0, r.f1, r.f2⟩ : S50)] (by simp) (heap_alloc_new _ _)); have hbz := HS5.out.trans ((hb6.trans (hba.mono hb6.size)).mono HS5.out.size); have HR8 := Lib.hid (Kd.R_below HR5.out hbz); have HB8 := Lib.hid (HBR.out.trans (hbz.mono HBR.out.size)); clear hba hb6 hbz)) | ((with_reducible refine gate_builtin (b := .append) (xs := #[.tmp 144, .tmp 151]) rfl ?_); (try (refine gate_guard (by rfl) ?_; dsimp only)); at_builtin; go_loud (refine Kd.R_append_rows k50 (w0 := W2) W2.heap.size rfl (.tmp 144) (.tmp 151) 24 50 (.agg #[(.int .i64 0), (.int .i64 0), (.string ⟨#[]⟩)]) 32 rfl Try.underlying24 info50 rfl (by decide) (by omega) (.slice A5 n5 c5) ol [(⟨r.f0, r.f1, r.f2⟩ : S50)] _ _ _ (fun _ => True) (fun _ => False) rfl rfl HR8.out HC8.out (fun _ _ h => by obtain rfl := k50_open h; exact k50_mkM _ _ _ _) (fun _ h => h.elim) (fun _ _ => trivial) HB8.out HB8.out.size ?aL ?_; (case aL => have h_ := HE5.out; first | omega | (simp; done) | (simp; omega)); intro v8 w8 hR8 hb8 hg8 hat8; obtain ⟨A9, c9, hv9, hc9, _⟩ := Kd.R_reads hR8; have hln : (ol ++ [(⟨r.f0, r.f1, r.f2⟩ : S50)]).length = n5 + 1 := (by have h_ := HE5.out; simp only [List.length_append, List.length_cons, List.length_nil]; omega); rw [hln] at hv9; subst hv9; have HR9 := Lib.hid hR8; have HB9 := Lib.hid hb8; clear hg8 hat8 hln hR8; clear hb8)))
                  go_wp2
                  go_roundg gk
                  case measure => omega
                  case rel =>
                    exact ⟨i + 1, k + 1, ol ++ [(⟨r.f0, r.f1, r.f2⟩ : S50)], A9, c9, n5 + 1, rfl, by first | rfl | (congr 1), by first | rfl | (congr 1), by omega, by omega, by simp [HE5.out], HR9.out, HB9.out, by have h_ := HWK.out; rw [walk_c HQ1.out HQ2.out HQ3.out, HRR.out] at h_; rw [List.append_assoc]; exact h_, by omega, by omega⟩
end Go.Proofs.Ytgipepjpkmlmaaa.P
