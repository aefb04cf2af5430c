import Derived.Test.YtgipepjpkmlmaaaQO1
import Derived.Test.YtgipepjpkmlmaaaQO2
import Derived.Test.YtgipepjpkmlmaaaQO3
import Derived.Test.YtgipepjpkmlmaaaQO4
import Derived.Test.YtgipepjpkmlmaaaQO5
import Derived.Test.YtgipepjpkmlmaaaQO6
import Derived.Test.YtgipepjpkmlmaaaQO7
import Derived.Test.YtgipepjpkmlmaaaQO8
import Derived.Test.YtgipepjpkmlmaaaQO9
import Derived.Test.YtgipepjpkmlmaaaQO10
import Derived.Test.YtgipepjpkmlmaaaQO11
namespace Go.Proofs.Ytgipepjpkmlmaaa.P
open Go.RowKit Go.Proofs.YtgipepjpkmlmaaaW.PrintWords Go.Proofs.YtgipepjpkmlmaaaW.PrintLast Go.Proofs.YtgipepjpkmlmaaaW.PrintMore
set_option linter.unusedVariables false
set_option linter.unusedSimpArgs false
theorem takeR (s : ByteArray) (k : Nat) (hk : 40 ≤ k) : headgateref01_Take.f k s = some (tkL s 11 0 0) := by
  unfold headgateref01_Take.f
  cases hs : scanK s 10 0 with
  | none =>
    have h1 := rl_none s 10 0 (k - 13) (by omega) (by omega) hs
    rw [show k - 13 + 10 + 3 = k by omega] at h1
    rw [show headgateref01_Take.l0 k s 0 = _ from h1, tk_bad s 11 0 0 (tk_none s 10 0 0 (by omega) hs)]
  | some K =>
    obtain ⟨_, h2, h3, h4, h5⟩ := scan_spec s 10 0 K (by omega) hs
    have h1 := rl_some s 10 0 K (k - 3 - K) (by omega) (by omega) hs
    rw [show k - 3 - K + (K - 0) + 3 = k by omega] at h1
    have h6 := rl_l1 s K h3 (by omega) (K + 1) (k - 3 - K - 1 - (K + 1)) (by omega) (by omega)
    rw [List.drop_of_length_le (by rw [bts_length]; omega), show decI [] % 18446744073709551616 = 0 by rfl, show (((K + 1 : Nat) : Int) - 1) = (K : Int) by omega, show k - 3 - K - 1 - (K + 1) + 1 + (K + 1) = k - 3 - K by omega] at h6
    rw [show headgateref01_Take.l0 k s 0 = _ from h1, h6]
    have h7 := tk_some s 10 0 0 K (by omega) hs
    have h8 := end_iff s K hs
    by_cases c : badK s K
    · unfold endT
      rw [if_neg (fun h => (h8.1 h) c), tk_bad s 11 0 0 (h7.1 c)]
    · obtain ⟨e, e3⟩ := h7.2 c
      obtain ⟨v1, v2⟩ := tk_val s 10 0 0 K (by omega) hs c rfl
      unfold endT
      rw [if_pos (h8.2 c), Int.emod_eq_of_lt (decI_nonneg _) v2]
      exact congrArg some (Prod.ext v1.symm (Prod.ext e3.symm e.symm))
theorem takeAllR_l (n : Nat) (hn : n ≤ 64) : ∀ (j i : Nat) (s : ByteArray) (l : List Int), i + j = n → l.length = i → headgateref01_TakeAll.l0 (j + 41) s (n : Int) l (i : Int) = some (takeAllL j s l)
  | 0, i, s, l, hi, hl => by
    rw [headgateref01_TakeAll.l0, if_neg (by omega)]
    rfl
  | j + 1, i, s, l, hi, hl => by
    rw [show j + 1 + 41 = (j + 41) + 1 by omega, headgateref01_TakeAll.l0, if_pos (by omega), takeR s (j + 41) (by omega), Option.bind_some, takeAllL]
    by_cases c : (tkL s 11 0 0).2.2 = 0
    · rw [if_pos c, if_pos c, if_pos (by omega), show wrap64 ((i : Int) + 1) = ((i + 1 : Nat) : Int) by unfold wrap64; omega]
      exact takeAllR_l n hn j (i + 1) _ _ (by omega) (by rw [List.length_append, hl]; rfl)
    · rw [if_neg c, if_neg c]
theorem takeAllR (s : ByteArray) : headgateref01_TakeAll.f 52 s 10 = some (takeAllL 10 s []) := by
  unfold headgateref01_TakeAll.f
  rw [if_neg (by decide), show decide ((10 : Int) > 64) = false by decide, headgateref01_TakeAll.j0, if_neg (by decide)]
  exact takeAllR_l 10 (by decide) 10 0 s [] rfl rfl
theorem takeAllR_calls (s : ByteArray) (w : World) :
    Calls Try.prog 92 #[.string s, .int .i64 10] w fun e w' => ∃ v, e = .returned (.tuple #[v, .string (takeAllL 10 s []).2.1, .int .i64 (takeAllL 10 s []).2.2]) ∧ Kd.R (Kd.int .i64) 3 w' w.heap.size (fun _ => True) v (takeAllL 10 s []).1 ∧ Below w.heap.size w w' :=
  headgateref01_TakeAll.calls 52 s 10 _ _ _ w (takeAllR s)
theorem size_no {r : ByteArray} (h : r ≠ ⟨#[]⟩) : 0 < r.size := by
  have h2 : r.size ≠ 0 := by
    intro h2
    exact h (ByteArray.ext (Array.eq_empty_of_size_eq_zero h2))
  omega
/-- An aggregate whose first so many counts are in place. -/
def histC (a : S44) (i : Nat) : Array Value := #[.int .i64 a.f0, .int .i64 a.f1, .int .i64 a.f2, .int .i64 a.f3, .int .i64 (if 0 < i then a.f4.f0 else 0), .int .i64 (if 1 < i then a.f4.f1 else 0), .int .i64 (if 2 < i then a.f4.f2 else 0), .int .i64 (if 3 < i then a.f4.f3 else 0), .int .i64 a.f5, .int .i64 a.f6]
set_option maxHeartbeats 8000000 in
set_option maxRecDepth 100000 in
theorem decodeRM_calls (s : ByteArray) (a : S44) (hT0 : takeAllL 10 s [] = (aggL a, ⟨#[]⟩, 0)) (w : World) :
    Calls Try.prog 75 #[.string s] w fun e w' => e = .returned (if aggOk a = true then .tuple #[aggV a, .int .i64 0] else .tuple #[aggV z44, .int .i64 2]) ∧ Below w.heap.size w w' := by
  have htk : ∀ w, Calls Try.prog 92 #[.string s, .int .i64 10] w fun e w' => ∃ v, e = .returned (.tuple #[v, .string ⟨#[]⟩, .int .i64 0]) ∧ Kd.R (Kd.int .i64) 3 w' w.heap.size (fun _ => True) v (aggL a) ∧ Below w.heap.size w w' := by
    intro w
    have h := takeAllR_calls s w
    rw [hT0] at h
    exact h
  have hchk := fun w => mayA_calls a w
  obtain ⟨q, hq⟩ : ∃ q, aggOk a = q := ⟨_, rfl⟩
  rw [hq] at hchk ⊢
  have HTK := Lib.hid htk
  have HCHK := Lib.hid hchk
  obtain ⟨W1, hW1⟩ : ∃ W, W = (w.alloc (.cells #[.int .i64 0, .int .i64 0, .int .i64 0, .int .i64 0, .int .i64 0, .int .i64 0, .int .i64 0, .int .i64 0, .int .i64 0, .int .i64 0] 44)) := ⟨_, rfl⟩
  have h0 : W1.heap[w.heap.size]? = some (.cells #[.int .i64 0, .int .i64 0, .int .i64 0, .int .i64 0, .int .i64 0, .int .i64 0, .int .i64 0, .int .i64 0, .int .i64 0, .int .i64 0] 44 (0, 0)) := by rw [hW1]; exact heap_alloc_new _ _
  have hb : Below w.heap.size w W1 := by rw [hW1]; exact below_alloc (Below.refl _ _) _
  have HB := Lib.hid hb
  have HW1 := Lib.hid hW1
  have H0 := Lib.hid h0
  have hu := Try.underlying44
  have hu42 := Try.underlying42
  clear hW1 h0 hb htk hchk hT0 hq
  go_enter Try.func75, Try.ntmps75
  go_upto_region 1 with fail
  rw [← HW1.out]
  go_upto_region 4 with (first | (go_at_call 92; go_loud ((with_reducible refine (HTK.out _).mono ?_); rintro e WX ⟨v, rfl, hR, hb3⟩; obtain ⟨A, c, rfl, hc, hC⟩ := Kd.R_reads hR; have HB3 := Lib.hid hb3; have HCC := Lib.hid hC; have HQ0 := Lib.hid (blk_below H0.out hb3); have hcl : 10 ≤ c := hc; clear hR hb3 hC hc)))
  obtain ⟨ad, had, _⟩ := Kd.at_int HCC.out 0 (by omega) (show (0 : Int) < ((10 : Nat) : Int) by decide)
  cases had
  have hln : (aggL a).length = 10 := rfl
  rw [hln]
  have hc0 : WX.cell? (ad.add 0) = some (.int .i64 a.f0) := by obtain ⟨ad', e', hx⟩ := Kd.at_int HCC.out 0 (by decide) (show (0 : Int) < ((10 : Nat) : Int) by decide); cases e'; exact hx
  rw [Addr.add_zero'] at hc0
  have HC0 := Lib.hid hc0
  clear hc0
  have hc1 : WX.cell? (ad.add 1) = some (.int .i64 a.f1) := by obtain ⟨ad', e', hx⟩ := Kd.at_int HCC.out 1 (by decide) (show (1 : Int) < ((10 : Nat) : Int) by decide); cases e'; exact hx
  rw [show ad.add 1 = ⟨ad.block, ad.off + 1, none⟩ from rfl] at hc1
  have HC1 := Lib.hid hc1
  clear hc1
  have hc2 : WX.cell? (ad.add 2) = some (.int .i64 a.f2) := by obtain ⟨ad', e', hx⟩ := Kd.at_int HCC.out 2 (by decide) (show (2 : Int) < ((10 : Nat) : Int) by decide); cases e'; exact hx
  rw [show ad.add 2 = ⟨ad.block, ad.off + 2, none⟩ from rfl] at hc2
  have HC2 := Lib.hid hc2
  clear hc2
  have hc3 : WX.cell? (ad.add 3) = some (.int .i64 a.f3) := by obtain ⟨ad', e', hx⟩ := Kd.at_int HCC.out 3 (by decide) (show (3 : Int) < ((10 : Nat) : Int) by decide); cases e'; exact hx
  rw [show ad.add 3 = ⟨ad.block, ad.off + 3, none⟩ from rfl] at hc3
  have HC3 := Lib.hid hc3
  clear hc3
  have hc4 : WX.cell? (ad.add 4) = some (.int .i64 a.f4.f0) := by obtain ⟨ad', e', hx⟩ := Kd.at_int HCC.out 4 (by decide) (show (4 : Int) < ((10 : Nat) : Int) by decide); cases e'; exact hx
  rw [show ad.add 4 = ⟨ad.block, ad.off + 4, none⟩ from rfl] at hc4
  have HC4 := Lib.hid hc4
  clear hc4
  have hc5 : WX.cell? (ad.add 5) = some (.int .i64 a.f4.f1) := by obtain ⟨ad', e', hx⟩ := Kd.at_int HCC.out 5 (by decide) (show (5 : Int) < ((10 : Nat) : Int) by decide); cases e'; exact hx
  rw [show ad.add 5 = ⟨ad.block, ad.off + 5, none⟩ from rfl] at hc5
  have HC5 := Lib.hid hc5
  clear hc5
  have hc6 : WX.cell? (ad.add 6) = some (.int .i64 a.f4.f2) := by obtain ⟨ad', e', hx⟩ := Kd.at_int HCC.out 6 (by decide) (show (6 : Int) < ((10 : Nat) : Int) by decide); cases e'; exact hx
  rw [show ad.add 6 = ⟨ad.block, ad.off + 6, none⟩ from rfl] at hc6
  have HC6 := Lib.hid hc6
  clear hc6
  have hc7 : WX.cell? (ad.add 7) = some (.int .i64 a.f4.f3) := by obtain ⟨ad', e', hx⟩ := Kd.at_int HCC.out 7 (by decide) (show (7 : Int) < ((10 : Nat) : Int) by decide); cases e'; exact hx
  rw [show ad.add 7 = ⟨ad.block, ad.off + 7, none⟩ from rfl] at hc7
  have HC7 := Lib.hid hc7
  clear hc7
  have hc8 : WX.cell? (ad.add 8) = some (.int .i64 a.f5) := by obtain ⟨ad', e', hx⟩ := Kd.at_int HCC.out 8 (by decide) (show (8 : Int) < ((10 : Nat) : Int) by decide); cases e'; exact hx
  rw [show ad.add 8 = ⟨ad.block, ad.off + 8, none⟩ from rfl] at hc8
  have HC8 := Lib.hid hc8
  clear hc8
  have hc9 : WX.cell? (ad.add 9) = some (.int .i64 a.f6) := by obtain ⟨ad', e', hx⟩ := Kd.at_int HCC.out 9 (by decide) (show (9 : Int) < ((10 : Nat) : Int) by decide); cases e'; exact hx
  rw [show ad.add 9 = ⟨ad.block, ad.off + 9, none⟩ from rfl] at hc9
  have HC9 := Lib.hid hc9
  clear hc9
  refine wp_region_held_drew (S := fun w_ => Below WX.heap.size WX w_) (by kernel_rfl) (below_drew (Below.refl _ _)) (fun hS_ => ?_)
  have hS : Below WX.heap.size WX _ := hS_
  clear hS_
  change wpAnyH _ _ _ _ _ 21 #[false, false, false, false, false, false, false, false, false, false, false, false, false, false, false, false, false, false, false, false, false] _ _
  refine takeE 0 (some 23) #[true, false, false, false, false, false, false, false, false, false, false, false, false, false, false, false, false, false, false, false, false] hS ?_
  refine takeE 1 (some 24) #[true, true, false, false, false, false, false, false, false, false, false, false, false, false, false, false, false, false, false, false, false] hS ?_
  refine takeE 2 (some 25) #[true, true, true, false, false, false, false, false, false, false, false, false, false, false, false, false, false, false, false, false, false] hS ?_ (hy := fun w_ hS_ => by (replace hS_ : Below WX.heap.size WX w_ := hS_); have x0_ := below_cell hS_ HC0.out; go_simp <;> with_reducible rfl)
  refine takeE 3 (some 26) #[true, true, true, true, false, false, false, false, false, false, false, false, false, false, false, false, false, false, false, false, false] hS ?_
  refine takeE 4 (some 27) #[true, true, true, true, true, false, false, false, false, false, false, false, false, false, false, false, false, false, false, false, false] hS ?_
  refine takeE 5 (some 28) #[true, true, true, true, true, true, false, false, false, false, false, false, false, false, false, false, false, false, false, false, false] hS ?_ (hy := fun w_ hS_ => by (replace hS_ : Below WX.heap.size WX w_ := hS_); have x1_ := below_cell hS_ HC1.out; go_simp <;> with_reducible rfl)
  refine takeE 6 (some 29) #[true, true, true, true, true, true, true, false, false, false, false, false, false, false, false, false, false, false, false, false, false] hS ?_
  refine takeE 7 (some 30) #[true, true, true, true, true, true, true, true, false, false, false, false, false, false, false, false, false, false, false, false, false] hS ?_
  refine takeE 8 (some 31) #[true, true, true, true, true, true, true, true, true, false, false, false, false, false, false, false, false, false, false, false, false] hS ?_ (hy := fun w_ hS_ => by (replace hS_ : Below WX.heap.size WX w_ := hS_); have x2_ := below_cell hS_ HC2.out; go_simp <;> with_reducible rfl)
  refine takeE 9 (some 32) #[true, true, true, true, true, true, true, true, true, true, false, false, false, false, false, false, false, false, false, false, false] hS ?_
  refine takeE 10 (some 33) #[true, true, true, true, true, true, true, true, true, true, true, false, false, false, false, false, false, false, false, false, false] hS ?_
  refine takeE 11 (some 34) #[true, true, true, true, true, true, true, true, true, true, true, true, false, false, false, false, false, false, false, false, false] hS ?_ (hy := fun w_ hS_ => by (replace hS_ : Below WX.heap.size WX w_ := hS_); have x3_ := below_cell hS_ HC3.out; go_simp <;> with_reducible rfl)
  refine takeE 12 (some 35) #[true, true, true, true, true, true, true, true, true, true, true, true, true, false, false, false, false, false, false, false, false] hS ?_
  refine takeE 13 (some 36) #[true, true, true, true, true, true, true, true, true, true, true, true, true, true, false, false, false, false, false, false, false] hS ?_
  refine takeE 14 (some 37) #[true, true, true, true, true, true, true, true, true, true, true, true, true, true, true, false, false, false, false, false, false] hS ?_ (hy := fun w_ hS_ => by (replace hS_ : Below WX.heap.size WX w_ := hS_); have x8_ := below_cell hS_ HC8.out; go_simp <;> with_reducible rfl)
  refine takeE 15 (some 38) #[true, true, true, true, true, true, true, true, true, true, true, true, true, true, true, true, false, false, false, false, false] hS ?_
  refine takeE 16 (some 39) #[true, true, true, true, true, true, true, true, true, true, true, true, true, true, true, true, true, false, false, false, false] hS ?_
  refine takeE 17 (some 40) #[true, true, true, true, true, true, true, true, true, true, true, true, true, true, true, true, true, true, false, false, false] hS ?_ (hy := fun w_ hS_ => by (replace hS_ : Below WX.heap.size WX w_ := hS_); have x9_ := below_cell hS_ HC9.out; go_simp <;> with_reducible rfl)
  refine takeE 18 (some 41) #[true, true, true, true, true, true, true, true, true, true, true, true, true, true, true, true, true, true, true, false, false] hS ?_
  have hSr := Lib.hid hS
  refine doD (i := 19) (ls2 := #[true, true, true, true, true, true, true, true, true, true, true, true, true, true, true, true, true, true, true, true, false]) (by kernel_rfl) rfl (by kernel_rfl) (by kernel_rfl) (fun K hK => ?_)
  go_simp
  refine hK.out _ _ ?_ (fun hS_ => ?_)
  · show Below WX.heap.size WX _
    exact hS.alloc hS.size _
  clear hK K hS
  have hS : Below WX.heap.size WX _ := hS_
  clear hS_
  refine doD (i := 20) (ls2 := #[true, true, true, true, true, true, true, true, true, true, true, true, true, true, true, true, true, true, true, true, true]) (by kernel_rfl) rfl (by kernel_rfl) (by kernel_rfl) (fun K hK => ?_)
  go_simp
  refine hK.out _ _ ?_ (fun hS_ => ?_)
  · show Below WX.heap.size WX _
    exact (hSr.out).alloc hSr.out.size _
  clear hK K hS
  have hS : Below WX.heap.size WX _ := hS_
  clear hS_
  refine wpAnyH_done (by kernel_rfl) ?_ _
  try go_simp
  clear hS hSr
  obtain ⟨W4, hW4⟩ : ∃ W, W = (WX.alloc (.cells #[.int .i64 a.f0, .int .i64 a.f1, .int .i64 a.f2, .int .i64 a.f3, .int .i64 0, .int .i64 0, .int .i64 0, .int .i64 0, .int .i64 a.f5, .int .i64 a.f6] 44)).drew := ⟨_, rfl⟩
  have hq4 : W4.heap[WX.heap.size]? = some (.cells #[.int .i64 a.f0, .int .i64 a.f1, .int .i64 a.f2, .int .i64 a.f3, .int .i64 0, .int .i64 0, .int .i64 0, .int .i64 0, .int .i64 a.f5, .int .i64 a.f6] 44 (0, 0)) := by rw [hW4]; exact blk_drew (heap_alloc_new _ _)
  have hb4 : Below WX.heap.size WX W4 := by rw [hW4]; exact below_drew ((Below.refl _ _).alloc (Nat.le_refl _) _)
  rw [← hW4]
  have HQ4 := Lib.hid hq4
  have HB4 := Lib.hid hb4
  clear hW4 hq4 hb4
  go_wp2
  go_loopg [8] 4 (fun kq v8 WL => ∃ (i : Nat), v8 = .int .i64 (i : Int) ∧ i ≤ 4 ∧ 4 - i ≤ kq ∧ WL.heap[WX.heap.size]? = some (.cells (histC a i) 44 (0, 0)) ∧ Below WX.heap.size WX WL)
  case atStart => exact ⟨0, rfl, by omega, by omega, HQ4.out, HB4.out⟩
  case round =>
    obtain ⟨i, rfl, hi, hik, hgl, hbl⟩ := hrel
    obtain ⟨WL, hWL⟩ : ∃ W, W = wr := ⟨_, rfl⟩
    subst hWL
    have HGL := Lib.hid hgl
    have HBL := Lib.hid hbl
    by_cases hi0 : i = 0
    · subst hi0
      have hgl2 : WL.heap[WX.heap.size]? = some (.cells #[.int .i64 a.f0, .int .i64 a.f1, .int .i64 a.f2, .int .i64 a.f3, .int .i64 0, .int .i64 0, .int .i64 0, .int .i64 0, .int .i64 a.f5, .int .i64 a.f6] 44 (0, 0)) := hgl
      have y_ : WL.cell? ⟨WX.heap.size, 4, none⟩ = some (.int .i64 0) := (blk_cell hgl2 4).trans rfl
      have f_ := blk_frozen hgl2 4
      have x_ := below_cell hbl HC4.out
      clear hgl hgl2 hbl
      cases gk with
      | zero => omega
      | succ gk =>
      have hcl2 : 10 ≤ c := hcl
      go_wp2
      go_roundg gk
      case measure => omega
      case rel => exact ⟨1, rfl, by omega, by omega, (blk_put HGL.out 4 (.int .i64 a.f4.f0) rfl).trans rfl, HBL.out.setCell (Nat.le_refl _) _⟩
    by_cases hi1 : i = 1
    · subst hi1
      have hgl2 : WL.heap[WX.heap.size]? = some (.cells #[.int .i64 a.f0, .int .i64 a.f1, .int .i64 a.f2, .int .i64 a.f3, .int .i64 a.f4.f0, .int .i64 0, .int .i64 0, .int .i64 0, .int .i64 a.f5, .int .i64 a.f6] 44 (0, 0)) := hgl
      have y_ : WL.cell? ⟨WX.heap.size, 5, none⟩ = some (.int .i64 0) := (blk_cell hgl2 5).trans rfl
      have f_ := blk_frozen hgl2 5
      have x_ := below_cell hbl HC5.out
      clear hgl hgl2 hbl
      cases gk with
      | zero => omega
      | succ gk =>
      have hcl2 : 10 ≤ c := hcl
      go_wp2
      go_roundg gk
      case measure => omega
      case rel => exact ⟨2, rfl, by omega, by omega, (blk_put HGL.out 5 (.int .i64 a.f4.f1) rfl).trans rfl, HBL.out.setCell (Nat.le_refl _) _⟩
    by_cases hi2 : i = 2
    · subst hi2
      have hgl2 : WL.heap[WX.heap.size]? = some (.cells #[.int .i64 a.f0, .int .i64 a.f1, .int .i64 a.f2, .int .i64 a.f3, .int .i64 a.f4.f0, .int .i64 a.f4.f1, .int .i64 0, .int .i64 0, .int .i64 a.f5, .int .i64 a.f6] 44 (0, 0)) := hgl
      have y_ : WL.cell? ⟨WX.heap.size, 6, none⟩ = some (.int .i64 0) := (blk_cell hgl2 6).trans rfl
      have f_ := blk_frozen hgl2 6
      have x_ := below_cell hbl HC6.out
      clear hgl hgl2 hbl
      cases gk with
      | zero => omega
      | succ gk =>
      have hcl2 : 10 ≤ c := hcl
      go_wp2
      go_roundg gk
      case measure => omega
      case rel => exact ⟨3, rfl, by omega, by omega, (blk_put HGL.out 6 (.int .i64 a.f4.f2) rfl).trans rfl, HBL.out.setCell (Nat.le_refl _) _⟩
    by_cases hi3 : i = 3
    · subst hi3
      have hgl2 : WL.heap[WX.heap.size]? = some (.cells #[.int .i64 a.f0, .int .i64 a.f1, .int .i64 a.f2, .int .i64 a.f3, .int .i64 a.f4.f0, .int .i64 a.f4.f1, .int .i64 a.f4.f2, .int .i64 0, .int .i64 a.f5, .int .i64 a.f6] 44 (0, 0)) := hgl
      have y_ : WL.cell? ⟨WX.heap.size, 7, none⟩ = some (.int .i64 0) := (blk_cell hgl2 7).trans rfl
      have f_ := blk_frozen hgl2 7
      have x_ := below_cell hbl HC7.out
      clear hgl hgl2 hbl
      cases gk with
      | zero => omega
      | succ gk =>
      have hcl2 : 10 ≤ c := hcl
      go_wp2
      go_roundg gk
      case measure => omega
      case rel => exact ⟨4, rfl, by omega, by omega, (blk_put HGL.out 7 (.int .i64 a.f4.f3) rfl).trans rfl, HBL.out.setCell (Nat.le_refl _) _⟩
    obtain rfl : i = 4 := by omega
    have hq4 : WL.heap[WX.heap.size]? = some (.cells #[.int .i64 a.f0, .int .i64 a.f1, .int .i64 a.f2, .int .i64 a.f3, .int .i64 a.f4.f0, .int .i64 a.f4.f1, .int .i64 a.f4.f2, .int .i64 a.f4.f3, .int .i64 a.f5, .int .i64 a.f6] 44 (0, 0)) := hgl
    have hz4 := blk_below HQ0.out hbl
    have hb4 : Below w.heap.size w WL := (HB.out.trans (HB3.out.mono HB.out.size)).trans (hbl.mono (HB.out.trans (HB3.out.mono HB.out.size)).size)
    have z0 : WL.cell? ⟨WX.heap.size, 0, none⟩ = some (.int .i64 a.f0) := (blk_cell hq4 0).trans rfl
    have z1 : WL.cell? ⟨WX.heap.size, 1, none⟩ = some (.int .i64 a.f1) := (blk_cell hq4 1).trans rfl
    have z2 : WL.cell? ⟨WX.heap.size, 2, none⟩ = some (.int .i64 a.f2) := (blk_cell hq4 2).trans rfl
    have z3 : WL.cell? ⟨WX.heap.size, 3, none⟩ = some (.int .i64 a.f3) := (blk_cell hq4 3).trans rfl
    have z4 : WL.cell? ⟨WX.heap.size, 4, none⟩ = some (.int .i64 a.f4.f0) := (blk_cell hq4 4).trans rfl
    have z5 : WL.cell? ⟨WX.heap.size, 5, none⟩ = some (.int .i64 a.f4.f1) := (blk_cell hq4 5).trans rfl
    have z6 : WL.cell? ⟨WX.heap.size, 6, none⟩ = some (.int .i64 a.f4.f2) := (blk_cell hq4 6).trans rfl
    have z7 : WL.cell? ⟨WX.heap.size, 7, none⟩ = some (.int .i64 a.f4.f3) := (blk_cell hq4 7).trans rfl
    have z8 : WL.cell? ⟨WX.heap.size, 8, none⟩ = some (.int .i64 a.f5) := (blk_cell hq4 8).trans rfl
    have z9 : WL.cell? ⟨WX.heap.size, 9, none⟩ = some (.int .i64 a.f6) := (blk_cell hq4 9).trans rfl
    have HQ5 := Lib.hid hq4
    have HZ4 := Lib.hid hz4
    have HB5_ := Lib.hid hb4
    clear hq4 hz4 hb4 hgl hbl
    cases q with
    | true =>
      go_wp2_with (first | (go_at_call 67; go_loud ((with_reducible refine (HCHK.out _).mono ?_); rintro e w5 ⟨rfl, hb5⟩; have hq5 := blk_below HQ5.out hb5; have hz5 := blk_below HZ4.out hb5; have z0 : w5.cell? ⟨WX.heap.size, 0, none⟩ = some (.int .i64 a.f0) := (blk_cell hq5 0).trans rfl; have y0 : w5.cell? ⟨w.heap.size, 0, none⟩ = some (.int .i64 0) := (blk_cell hz5 0).trans rfl; have f0 := blk_frozen hz5 0; have z1 : w5.cell? ⟨WX.heap.size, 1, none⟩ = some (.int .i64 a.f1) := (blk_cell hq5 1).trans rfl; have y1 : w5.cell? ⟨w.heap.size, 1, none⟩ = some (.int .i64 0) := (blk_cell hz5 1).trans rfl; have f1 := blk_frozen hz5 1; have z2 : w5.cell? ⟨WX.heap.size, 2, none⟩ = some (.int .i64 a.f2) := (blk_cell hq5 2).trans rfl; have y2 : w5.cell? ⟨w.heap.size, 2, none⟩ = some (.int .i64 0) := (blk_cell hz5 2).trans rfl; have f2 := blk_frozen hz5 2; have z3 : w5.cell? ⟨WX.heap.size, 3, none⟩ = some (.int .i64 a.f3) := (blk_cell hq5 3).trans rfl; have y3 : w5.cell? ⟨w.heap.size, 3, none⟩ = some (.int .i64 0) := (blk_cell hz5 3).trans rfl; have f3 := blk_frozen hz5 3; have z4 : w5.cell? ⟨WX.heap.size, 4, none⟩ = some (.int .i64 a.f4.f0) := (blk_cell hq5 4).trans rfl; have y4 : w5.cell? ⟨w.heap.size, 4, none⟩ = some (.int .i64 0) := (blk_cell hz5 4).trans rfl; have f4 := blk_frozen hz5 4; have z5 : w5.cell? ⟨WX.heap.size, 5, none⟩ = some (.int .i64 a.f4.f1) := (blk_cell hq5 5).trans rfl; have y5 : w5.cell? ⟨w.heap.size, 5, none⟩ = some (.int .i64 0) := (blk_cell hz5 5).trans rfl; have f5 := blk_frozen hz5 5; have z6 : w5.cell? ⟨WX.heap.size, 6, none⟩ = some (.int .i64 a.f4.f2) := (blk_cell hq5 6).trans rfl; have y6 : w5.cell? ⟨w.heap.size, 6, none⟩ = some (.int .i64 0) := (blk_cell hz5 6).trans rfl; have f6 := blk_frozen hz5 6; have z7 : w5.cell? ⟨WX.heap.size, 7, none⟩ = some (.int .i64 a.f4.f3) := (blk_cell hq5 7).trans rfl; have y7 : w5.cell? ⟨w.heap.size, 7, none⟩ = some (.int .i64 0) := (blk_cell hz5 7).trans rfl; have f7 := blk_frozen hz5 7; have z8 : w5.cell? ⟨WX.heap.size, 8, none⟩ = some (.int .i64 a.f5) := (blk_cell hq5 8).trans rfl; have y8 : w5.cell? ⟨w.heap.size, 8, none⟩ = some (.int .i64 0) := (blk_cell hz5 8).trans rfl; have f8 := blk_frozen hz5 8; have z9 : w5.cell? ⟨WX.heap.size, 9, none⟩ = some (.int .i64 a.f6) := (blk_cell hq5 9).trans rfl; have y9 : w5.cell? ⟨w.heap.size, 9, none⟩ = some (.int .i64 0) := (blk_cell hz5 9).trans rfl; have f9 := blk_frozen hz5 9; have HZ5 := Lib.hid hz5; have HB5 := Lib.hid (HB5_.out.trans (hb5.mono HB5_.out.size)); clear hq5 hz5 hb5)))
      refine bodyPost_ret (results_ct' rfl _ _ w.heap.size 44 #[.int .i64 a.f0, .int .i64 a.f1, .int .i64 a.f2, .int .i64 a.f3, .int .i64 a.f4.f0, .int .i64 a.f4.f1, .int .i64 a.f4.f2, .int .i64 a.f4.f3, .int .i64 a.f5, .int .i64 a.f6] (0, 0) _ rfl (put44_heap HZ5.out (.int .i64 a.f0) (.int .i64 a.f1) (.int .i64 a.f2) (.int .i64 a.f3) (.int .i64 a.f4.f0) (.int .i64 a.f4.f1) (.int .i64 a.f4.f2) (.int .i64 a.f4.f3) (.int .i64 a.f5) (.int .i64 a.f6)) Try.underlying44 rfl (by kernel_rfl)) rfl ?_
      exact ⟨rfl, put44_below HB5.out (Nat.le_refl _) (.int .i64 a.f0) (.int .i64 a.f1) (.int .i64 a.f2) (.int .i64 a.f3) (.int .i64 a.f4.f0) (.int .i64 a.f4.f1) (.int .i64 a.f4.f2) (.int .i64 a.f4.f3) (.int .i64 a.f5) (.int .i64 a.f6)⟩
    | false =>
      go_wp2_with (first | (go_at_call 67; go_loud ((with_reducible refine (HCHK.out _).mono ?_); rintro e w5 ⟨rfl, hb5⟩; have hq5 := blk_below HQ5.out hb5; have hz5 := blk_below HZ4.out hb5; have z0 : w5.cell? ⟨WX.heap.size, 0, none⟩ = some (.int .i64 a.f0) := (blk_cell hq5 0).trans rfl; have y0 : w5.cell? ⟨w.heap.size, 0, none⟩ = some (.int .i64 0) := (blk_cell hz5 0).trans rfl; have f0 := blk_frozen hz5 0; have z1 : w5.cell? ⟨WX.heap.size, 1, none⟩ = some (.int .i64 a.f1) := (blk_cell hq5 1).trans rfl; have y1 : w5.cell? ⟨w.heap.size, 1, none⟩ = some (.int .i64 0) := (blk_cell hz5 1).trans rfl; have f1 := blk_frozen hz5 1; have z2 : w5.cell? ⟨WX.heap.size, 2, none⟩ = some (.int .i64 a.f2) := (blk_cell hq5 2).trans rfl; have y2 : w5.cell? ⟨w.heap.size, 2, none⟩ = some (.int .i64 0) := (blk_cell hz5 2).trans rfl; have f2 := blk_frozen hz5 2; have z3 : w5.cell? ⟨WX.heap.size, 3, none⟩ = some (.int .i64 a.f3) := (blk_cell hq5 3).trans rfl; have y3 : w5.cell? ⟨w.heap.size, 3, none⟩ = some (.int .i64 0) := (blk_cell hz5 3).trans rfl; have f3 := blk_frozen hz5 3; have z4 : w5.cell? ⟨WX.heap.size, 4, none⟩ = some (.int .i64 a.f4.f0) := (blk_cell hq5 4).trans rfl; have y4 : w5.cell? ⟨w.heap.size, 4, none⟩ = some (.int .i64 0) := (blk_cell hz5 4).trans rfl; have f4 := blk_frozen hz5 4; have z5 : w5.cell? ⟨WX.heap.size, 5, none⟩ = some (.int .i64 a.f4.f1) := (blk_cell hq5 5).trans rfl; have y5 : w5.cell? ⟨w.heap.size, 5, none⟩ = some (.int .i64 0) := (blk_cell hz5 5).trans rfl; have f5 := blk_frozen hz5 5; have z6 : w5.cell? ⟨WX.heap.size, 6, none⟩ = some (.int .i64 a.f4.f2) := (blk_cell hq5 6).trans rfl; have y6 : w5.cell? ⟨w.heap.size, 6, none⟩ = some (.int .i64 0) := (blk_cell hz5 6).trans rfl; have f6 := blk_frozen hz5 6; have z7 : w5.cell? ⟨WX.heap.size, 7, none⟩ = some (.int .i64 a.f4.f3) := (blk_cell hq5 7).trans rfl; have y7 : w5.cell? ⟨w.heap.size, 7, none⟩ = some (.int .i64 0) := (blk_cell hz5 7).trans rfl; have f7 := blk_frozen hz5 7; have z8 : w5.cell? ⟨WX.heap.size, 8, none⟩ = some (.int .i64 a.f5) := (blk_cell hq5 8).trans rfl; have y8 : w5.cell? ⟨w.heap.size, 8, none⟩ = some (.int .i64 0) := (blk_cell hz5 8).trans rfl; have f8 := blk_frozen hz5 8; have z9 : w5.cell? ⟨WX.heap.size, 9, none⟩ = some (.int .i64 a.f6) := (blk_cell hq5 9).trans rfl; have y9 : w5.cell? ⟨w.heap.size, 9, none⟩ = some (.int .i64 0) := (blk_cell hz5 9).trans rfl; have f9 := blk_frozen hz5 9; have HZ5 := Lib.hid hz5; have HB5 := Lib.hid (HB5_.out.trans (hb5.mono HB5_.out.size)); clear hq5 hz5 hb5)))
      refine bodyPost_ret (results_ct' rfl _ _ w.heap.size 44 #[.int .i64 0, .int .i64 0, .int .i64 0, .int .i64 0, .int .i64 0, .int .i64 0, .int .i64 0, .int .i64 0, .int .i64 0, .int .i64 0] (0, 0) _ rfl (put44_heap HZ5.out (.int .i64 0) (.int .i64 0) (.int .i64 0) (.int .i64 0) (.int .i64 0) (.int .i64 0) (.int .i64 0) (.int .i64 0) (.int .i64 0) (.int .i64 0)) Try.underlying44 rfl (by kernel_rfl)) rfl ?_
      exact ⟨rfl, put44_below HB5.out (Nat.le_refl _) (.int .i64 0) (.int .i64 0) (.int .i64 0) (.int .i64 0) (.int .i64 0) (.int .i64 0) (.int .i64 0) (.int .i64 0) (.int .i64 0) (.int .i64 0)⟩
set_option maxHeartbeats 8000000 in
set_option maxRecDepth 100000 in
theorem decodeRN_calls (s : ByteArray) (t : List Int) (r : ByteArray) (e : Int) (hT0 : takeAllL 10 s [] = (t, r, e)) (hne : e ≠ 0 ∨ r ≠ ⟨#[]⟩) (w : World) :
    Calls Try.prog 75 #[.string s] w fun e w' => e = .returned (.tuple #[aggV z44, .int .i64 2]) ∧ Below w.heap.size w w' := by
  have htk : ∀ w, Calls Try.prog 92 #[.string s, .int .i64 10] w fun e' w' => ∃ v, e' = .returned (.tuple #[v, .string r, .int .i64 e]) ∧ Kd.R (Kd.int .i64) 3 w' w.heap.size (fun _ => True) v t ∧ Below w.heap.size w w' := by
    intro w
    have h := takeAllR_calls s w
    rw [hT0] at h
    exact h
  have HTK := Lib.hid htk
  obtain ⟨W1, hW1⟩ : ∃ W, W = (w.alloc (.cells #[.int .i64 0, .int .i64 0, .int .i64 0, .int .i64 0, .int .i64 0, .int .i64 0, .int .i64 0, .int .i64 0, .int .i64 0, .int .i64 0] 44)) := ⟨_, rfl⟩
  have h0 : W1.heap[w.heap.size]? = some (.cells #[.int .i64 0, .int .i64 0, .int .i64 0, .int .i64 0, .int .i64 0, .int .i64 0, .int .i64 0, .int .i64 0, .int .i64 0, .int .i64 0] 44 (0, 0)) := by rw [hW1]; exact heap_alloc_new _ _
  have hb : Below w.heap.size w W1 := by rw [hW1]; exact below_alloc (Below.refl _ _) _
  have HB := Lib.hid hb
  have HW1 := Lib.hid hW1
  have H0 := Lib.hid h0
  have hu := Try.underlying44
  have hu42 := Try.underlying42
  clear hW1 h0 hb htk hT0
  by_cases he : e = 0
  · have hr : r ≠ ⟨#[]⟩ := by rcases hne with h | h; exact absurd he h; exact h
    subst he
    have e1 := size_no hr
    clear hne hr
    go_enter Try.func75, Try.ntmps75
    go_upto_region 1 with fail
    rw [← HW1.out]
    go_wp2_with (first | (go_at_call 92; go_loud ((with_reducible refine (HTK.out _).mono ?_); rintro e' WX ⟨v, rfl, hR, hb3⟩; obtain ⟨A, c, rfl, hc, hC⟩ := Kd.R_reads hR; have hz5 := blk_below H0.out hb3; have y0 : WX.cell? ⟨w.heap.size, 0, none⟩ = some (.int .i64 0) := (blk_cell hz5 0).trans rfl; have f0 := blk_frozen hz5 0; have y1 : WX.cell? ⟨w.heap.size, 1, none⟩ = some (.int .i64 0) := (blk_cell hz5 1).trans rfl; have f1 := blk_frozen hz5 1; have y2 : WX.cell? ⟨w.heap.size, 2, none⟩ = some (.int .i64 0) := (blk_cell hz5 2).trans rfl; have f2 := blk_frozen hz5 2; have y3 : WX.cell? ⟨w.heap.size, 3, none⟩ = some (.int .i64 0) := (blk_cell hz5 3).trans rfl; have f3 := blk_frozen hz5 3; have y4 : WX.cell? ⟨w.heap.size, 4, none⟩ = some (.int .i64 0) := (blk_cell hz5 4).trans rfl; have f4 := blk_frozen hz5 4; have y5 : WX.cell? ⟨w.heap.size, 5, none⟩ = some (.int .i64 0) := (blk_cell hz5 5).trans rfl; have f5 := blk_frozen hz5 5; have y6 : WX.cell? ⟨w.heap.size, 6, none⟩ = some (.int .i64 0) := (blk_cell hz5 6).trans rfl; have f6 := blk_frozen hz5 6; have y7 : WX.cell? ⟨w.heap.size, 7, none⟩ = some (.int .i64 0) := (blk_cell hz5 7).trans rfl; have f7 := blk_frozen hz5 7; have y8 : WX.cell? ⟨w.heap.size, 8, none⟩ = some (.int .i64 0) := (blk_cell hz5 8).trans rfl; have f8 := blk_frozen hz5 8; have y9 : WX.cell? ⟨w.heap.size, 9, none⟩ = some (.int .i64 0) := (blk_cell hz5 9).trans rfl; have f9 := blk_frozen hz5 9; have HZ5 := Lib.hid hz5; have HB5 := Lib.hid (HB.out.trans (hb3.mono HB.out.size)); clear hR hb3 hC hc hz5)))
    refine bodyPost_ret (results_ct' rfl _ _ w.heap.size 44 #[.int .i64 0, .int .i64 0, .int .i64 0, .int .i64 0, .int .i64 0, .int .i64 0, .int .i64 0, .int .i64 0, .int .i64 0, .int .i64 0] (0, 0) _ rfl (put44_heap HZ5.out (.int .i64 0) (.int .i64 0) (.int .i64 0) (.int .i64 0) (.int .i64 0) (.int .i64 0) (.int .i64 0) (.int .i64 0) (.int .i64 0) (.int .i64 0)) Try.underlying44 rfl (by kernel_rfl)) rfl ?_
    exact ⟨rfl, put44_below HB5.out (Nat.le_refl _) (.int .i64 0) (.int .i64 0) (.int .i64 0) (.int .i64 0) (.int .i64 0) (.int .i64 0) (.int .i64 0) (.int .i64 0) (.int .i64 0) (.int .i64 0)⟩
  · have e2 : (e != 0) = true := bne_iff_ne.2 he
    clear hne
    go_enter Try.func75, Try.ntmps75
    go_upto_region 1 with fail
    rw [← HW1.out]
    go_wp2_with (first | (go_at_call 92; go_loud ((with_reducible refine (HTK.out _).mono ?_); rintro e' WX ⟨v, rfl, hR, hb3⟩; obtain ⟨A, c, rfl, hc, hC⟩ := Kd.R_reads hR; have hz5 := blk_below H0.out hb3; have y0 : WX.cell? ⟨w.heap.size, 0, none⟩ = some (.int .i64 0) := (blk_cell hz5 0).trans rfl; have f0 := blk_frozen hz5 0; have y1 : WX.cell? ⟨w.heap.size, 1, none⟩ = some (.int .i64 0) := (blk_cell hz5 1).trans rfl; have f1 := blk_frozen hz5 1; have y2 : WX.cell? ⟨w.heap.size, 2, none⟩ = some (.int .i64 0) := (blk_cell hz5 2).trans rfl; have f2 := blk_frozen hz5 2; have y3 : WX.cell? ⟨w.heap.size, 3, none⟩ = some (.int .i64 0) := (blk_cell hz5 3).trans rfl; have f3 := blk_frozen hz5 3; have y4 : WX.cell? ⟨w.heap.size, 4, none⟩ = some (.int .i64 0) := (blk_cell hz5 4).trans rfl; have f4 := blk_frozen hz5 4; have y5 : WX.cell? ⟨w.heap.size, 5, none⟩ = some (.int .i64 0) := (blk_cell hz5 5).trans rfl; have f5 := blk_frozen hz5 5; have y6 : WX.cell? ⟨w.heap.size, 6, none⟩ = some (.int .i64 0) := (blk_cell hz5 6).trans rfl; have f6 := blk_frozen hz5 6; have y7 : WX.cell? ⟨w.heap.size, 7, none⟩ = some (.int .i64 0) := (blk_cell hz5 7).trans rfl; have f7 := blk_frozen hz5 7; have y8 : WX.cell? ⟨w.heap.size, 8, none⟩ = some (.int .i64 0) := (blk_cell hz5 8).trans rfl; have f8 := blk_frozen hz5 8; have y9 : WX.cell? ⟨w.heap.size, 9, none⟩ = some (.int .i64 0) := (blk_cell hz5 9).trans rfl; have f9 := blk_frozen hz5 9; have HZ5 := Lib.hid hz5; have HB5 := Lib.hid (HB.out.trans (hb3.mono HB.out.size)); clear hR hb3 hC hc hz5)))
    refine bodyPost_ret (results_ct' rfl _ _ w.heap.size 44 #[.int .i64 0, .int .i64 0, .int .i64 0, .int .i64 0, .int .i64 0, .int .i64 0, .int .i64 0, .int .i64 0, .int .i64 0, .int .i64 0] (0, 0) _ rfl (put44_heap HZ5.out (.int .i64 0) (.int .i64 0) (.int .i64 0) (.int .i64 0) (.int .i64 0) (.int .i64 0) (.int .i64 0) (.int .i64 0) (.int .i64 0) (.int .i64 0)) Try.underlying44 rfl (by kernel_rfl)) rfl ?_
    exact ⟨rfl, put44_below HB5.out (Nat.le_refl _) (.int .i64 0) (.int .i64 0) (.int .i64 0) (.int .i64 0) (.int .i64 0) (.int .i64 0) (.int .i64 0) (.int .i64 0) (.int .i64 0) (.int .i64 0)⟩
/-- The reference's Decode of any text. -/
theorem decodeR_calls (s : ByteArray) (w : World) :
    Calls Try.prog 75 #[.string s] w fun e w' => e = .returned (.tuple #[aggV (decP s).1, .int .i64 (decP s).2]) ∧ Below w.heap.size w w' := by
  obtain ⟨T, hT⟩ : ∃ T, takeAllL 10 s [] = T := ⟨_, rfl⟩
  obtain ⟨t, r, e⟩ := T
  unfold decP
  by_cases he : e = 0 ∧ r = ⟨#[]⟩
  · obtain ⟨rfl, rfl⟩ := he
    obtain ⟨vs, h1, h2, _, _⟩ := takeAll_back 10 s [] (by rw [hT])
    rw [hT, List.nil_append] at h2
    have h2 : t = vs := h2
    subst h2
    refine (decodeRM_calls s (aggO t) (by rw [hT, aggO_L t h1]) w).mono ?_
    rintro e w' ⟨rfl, hb⟩
    refine ⟨?_, hb⟩
    rw [hT]
    simp only
    cases aggOk (aggO t) <;> simp
  · refine (decodeRN_calls s t r e hT (by by_cases c : e = 0; exact .inr (fun h => he ⟨c, h⟩); exact .inl c) w).mono ?_
    rintro e' w' ⟨rfl, hb⟩
    refine ⟨?_, hb⟩
    rw [hT, if_neg (fun h => he ⟨h.1, h.2.1⟩)]
end Go.Proofs.Ytgipepjpkmlmaaa.P
