import Derived.Test.YtgipepjpkmlmaaaQO1
import Derived.Test.YtgipepjpkmlmaaaQO2
import Derived.Test.YtgipepjpkmlmaaaQO3
import Derived.Test.YtgipepjpkmlmaaaQO4
import Derived.Test.YtgipepjpkmlmaaaQO5
import Derived.Test.YtgipepjpkmlmaaaQO6
import Derived.Test.YtgipepjpkmlmaaaQO7
import Derived.Test.YtgipepjpkmlmaaaQO8
import Derived.Test.YtgipepjpkmlmaaaQO9
import Derived.Test.YtgipepjpkmlmaaaQO10
namespace Go.Proofs.Ytgipepjpkmlmaaa.P
open Go.RowKit Go.Proofs.YtgipepjpkmlmaaaW.PrintWords Go.Proofs.YtgipepjpkmlmaaaW.PrintLast Go.Proofs.YtgipepjpkmlmaaaW.PrintMore
set_option linter.unusedVariables false
set_option linter.unusedSimpArgs false
theorem fold_num (u : Int) (h0 : 0 ≤ u) (h1 : u < 18446744073709551616) : foldU (numU u) = u := by
  unfold numU
  rw [Int.tdiv_eq_ediv_of_nonneg h0, Int.tmod_eq_emod_of_nonneg h0]
  split
  · rw [wraps_u64 _ (by omega) (by omega)]
    unfold foldU wrap64
    split <;> omega
  · rw [wraps_u64 _ (by omega) (by omega)]
    unfold foldU wrap64
    split <;> omega
theorem ext_list {a b : ByteArray} (h : a.toList = b.toList) : a = b := by
  rw [Lib.toList_data, Lib.toList_data] at h
  exact ByteArray.ext (Array.toList_inj.1 h)
theorem tk_bad (s : ByteArray) : ∀ f k u, (tkL s f k u).2.2 = 2 → tkL s f k u = (0, ⟨#[]⟩, 2)
  | 0, _, _, _ => rfl
  | f + 1, k, u, h => by
    rw [tkL] at h ⊢
    split
    · rfl
    · rename_i c
      rw [if_neg c] at h
      split
      · rename_i d
        rw [if_pos d] at h
        exact tk_bad s f (k + 1) _ h
      · rename_i d
        rw [if_neg d] at h
        split
        · rfl
        · rename_i b
          rw [if_neg b] at h
          cases h
/-- A number that was taken of a text stands at its head. -/
theorem take_back (s : ByteArray) (v : Int) (r : ByteArray) (h : tkL s 11 0 0 = (v, r, 0)) : s = numT v ++ r ∧ i64R v := by
  cases hs : scanK s 10 0 with
  | none =>
    have h2 := tk_none s 10 0 0 (by omega) hs
    rw [h] at h2
    cases h2
  | some K =>
    obtain ⟨_, h2, h3, h4, h5⟩ := scan_spec s 10 0 K (by omega) hs
    have h7 := tk_some s 10 0 0 K (by omega) hs
    have h8 := end_iff s K hs
    by_cases c : badK s K
    · have e := h7.1 c
      rw [h] at e
      cases e
    · obtain ⟨e, e3⟩ := h7.2 c
      obtain ⟨v1, v2⟩ := tk_val s 10 0 0 K (by omega) hs c rfl
      have hx := h8.2 c
      rw [Int.emod_eq_of_lt (decI_nonneg _) v2] at hx
      rw [h] at e3 v1
      have v1 : v = numU (decI (bts s (K + 1))) := v1
      have e3 : r = s.extract (K + 1) s.size := e3
      have hv : foldU v = decI (bts s (K + 1)) := by rw [v1]; exact fold_num _ (decI_nonneg _) v2
      have hnt : numT v = s.extract 0 (K + 1) := by unfold numT; rw [hv]; exact ext_list hx
      refine ⟨?_, by rw [v1]; exact numU_range _⟩
      rw [hnt, e3]
      apply ext_list
      rw [Lib.toList_data, Lib.toList_data, ByteArray.data_append, Array.toList_append, Lib.extract_data, Lib.extract_data, List.drop_zero, Nat.sub_zero]
      rw [List.take_of_length_le (l := List.drop (K + 1) s.data.toList) (by rw [List.length_drop]; exact Nat.le_of_eq rfl)]
      exact (List.take_append_drop (K + 1) s.data.toList).symm
theorem takeAll_back : ∀ (n : Nat) (s : ByteArray) (l : List Int), (takeAllL n s l).2.2 = 0 → ∃ vs : List Int, vs.length = n ∧ (takeAllL n s l).1 = l ++ vs ∧ s = vs.foldr (fun v s => numT v ++ s) (takeAllL n s l).2.1 ∧ ∀ v ∈ vs, i64R v
  | 0, s, l, _ => ⟨[], rfl, by simp [takeAllL], rfl, fun v h => by cases h⟩
  | n + 1, s, l, h => by
    rw [takeAllL] at h ⊢
    by_cases c : (tkL s 11 0 0).2.2 = 0
    · rw [if_pos c] at h ⊢
      obtain ⟨vs, h1, h2, h3, h4⟩ := takeAll_back n _ _ h
      obtain ⟨h5, h6⟩ := take_back s (tkL s 11 0 0).1 (tkL s 11 0 0).2.1 (Prod.ext rfl (Prod.ext rfl c))
      refine ⟨(tkL s 11 0 0).1 :: vs, by rw [List.length_cons, h1], by rw [h2, List.append_assoc]; rfl, ?_, fun v hv => ?_⟩
      · rw [List.foldr_cons, ← h3]
        exact h5
      · rcases List.mem_cons.1 hv with rfl | hv
        · exact h6
        · exact h4 v hv
    · rw [if_neg c] at h
      exact absurd h c
/-- Ten numbers as an aggregate. -/
def aggO (l : List Int) : S44 := ⟨rd l 0, rd l 1, rd l 2, rd l 3, ⟨rd l 4, rd l 5, rd l 6, rd l 7⟩, rd l 8, rd l 9⟩
theorem aggO_L (l : List Int) (h : l.length = 10) : aggL (aggO l) = l := by
  match l, h with
  | [a, b, c, d, e, f, g, h, i, j], _ => rfl
/-- What Decode answers. -/
def decP (s : ByteArray) : S44 × Int := if (takeAllL 10 s []).2.2 = 0 ∧ (takeAllL 10 s []).2.1 = ⟨#[]⟩ ∧ aggOk (aggO (takeAllL 10 s []).1) = true then (aggO (takeAllL 10 s []).1, 0) else (z44, 2)
theorem dec_back (s : ByteArray) (h : (decP s).2 = 0) : s = numsT (aggL (decP s).1) ∧ aggR (decP s).1 ∧ aggOk (decP s).1 = true := by
  unfold decP at h ⊢
  by_cases c : (takeAllL 10 s []).2.2 = 0 ∧ (takeAllL 10 s []).2.1 = ⟨#[]⟩ ∧ aggOk (aggO (takeAllL 10 s []).1) = true
  · rw [if_pos c]
    obtain ⟨c1, c2, c3⟩ := c
    obtain ⟨vs, h1, h2, h3, h4⟩ := takeAll_back 10 s [] c1
    rw [List.nil_append] at h2
    rw [c2] at h3
    rw [h2] at c3 ⊢
    simp only
    rw [aggO_L vs h1, nums_foldr]
    refine ⟨h3, ?_, c3⟩
    have hm : ∀ i : Nat, i < 10 → i64R (rd vs (i : Int)) := fun i hi => h4 _ (rd_mem vs i (by omega))
    exact ⟨hm 0 (by omega), hm 1 (by omega), hm 2 (by omega), hm 3 (by omega), hm 4 (by omega), hm 5 (by omega), hm 6 (by omega), hm 7 (by omega), hm 8 (by omega), hm 9 (by omega)⟩
  · rw [if_neg c] at h
    cases h
theorem dec_nums (a : S44) (ha : aggR a) (hok : aggOk a = true) : decP (numsT (aggL a)) = (a, 0) := by
  have h2 : takeAllL 10 (numsT (aggL a)) [] = (aggL a, ⟨#[]⟩, 0) := takeAll_nums (aggL a) (aggL_R ha)
  have e : aggO (aggL a) = a := rfl
  unfold decP
  rw [h2, if_pos ⟨rfl, rfl, by rw [e]; exact hok⟩, e]
set_option maxHeartbeats 8000000 in
set_option maxRecDepth 100000 in
/-- Decode of numbers that are all of the text. -/
theorem decodeM_calls (s : ByteArray) (hs : s.size ≤ 1000000000) (a : S44) (hT0 : takeAllL 10 s [] = (aggL a, ⟨#[]⟩, 0)) (w : World) :
    Calls Try.prog 70 #[.string s] w fun e w' => e = .returned (if aggOk a = true then .tuple #[aggV a, .int .i64 0] else .tuple #[aggV z44, .int .i64 2]) ∧ Below w.heap.size w w' := by
  have htk : ∀ w, Calls Try.prog 69 #[.string s, .int .i64 10] w fun e w' => ∃ v, e = .returned (.tuple #[v, .string ⟨#[]⟩, .int .i64 0]) ∧ Kd.R (Kd.int .i64) 3 w' w.heap.size (fun _ => True) v (aggL a) ∧ Below w.heap.size w w' := by
    intro w
    have h := takeAll_calls s 10 (by decide) hs w
    rw [hT0] at h
    exact h
  have hchk := fun w => aggCheck_calls a w
  obtain ⟨q, hq⟩ : ∃ q, aggOk a = q := ⟨_, rfl⟩
  rw [hq] at hchk ⊢
  have HTK := Lib.hid htk
  have HCHK := Lib.hid hchk
  have hu := Try.underlying44
  have hu42 := Try.underlying42
  obtain ⟨W1, hW1⟩ : ∃ W, W = (w.alloc (.cells #[.int .i64 0, .int .i64 0, .int .i64 0, .int .i64 0, .int .i64 0, .int .i64 0, .int .i64 0, .int .i64 0, .int .i64 0, .int .i64 0] 44)) := ⟨_, rfl⟩
  have h0 : W1.heap[w.heap.size]? = some (.cells #[.int .i64 0, .int .i64 0, .int .i64 0, .int .i64 0, .int .i64 0, .int .i64 0, .int .i64 0, .int .i64 0, .int .i64 0, .int .i64 0] 44 (0, 0)) := by rw [hW1]; exact heap_alloc_new _ _
  have hb : Below w.heap.size w W1 := by rw [hW1]; exact below_alloc (Below.refl _ _) _
  have HB := Lib.hid hb
  have HW1 := Lib.hid hW1
  have H0 := Lib.hid h0
  clear hW1 h0 hb htk hchk hT0 hq hs
  go_enter Try.func70, Try.ntmps70
  go_upto_region 1 with fail
  rw [← HW1.out]
  go_upto_region 4 with (first | (go_at_call 69; go_loud ((with_reducible refine (HTK.out _).mono ?_); rintro e WX ⟨v, rfl, hR, hb3⟩; obtain ⟨A, c, rfl, hc, hC⟩ := Kd.R_reads hR; have HB3 := Lib.hid hb3; have HCC := Lib.hid hC; have HQ0 := Lib.hid (blk_below H0.out hb3); have hcl : 10 ≤ c := hc; clear hR hb3 hC hc)))
  obtain ⟨ad, had, _⟩ := Kd.at_int HCC.out 0 (by omega) (show (0 : Int) < ((10 : Nat) : Int) by decide)
  cases had
  have hln : (aggL a).length = 10 := rfl
  rw [hln]
  have hc0 : WX.cell? (ad.add 0) = some (.int .i64 a.f0) := by obtain ⟨ad', e', hx⟩ := Kd.at_int HCC.out 0 (by decide) (show (0 : Int) < ((10 : Nat) : Int) by decide); cases e'; exact hx
  rw [Addr.add_zero'] at hc0
  have HC0 := Lib.hid hc0
  clear hc0
  have hc1 : WX.cell? (ad.add 1) = some (.int .i64 a.f1) := by obtain ⟨ad', e', hx⟩ := Kd.at_int HCC.out 1 (by decide) (show (1 : Int) < ((10 : Nat) : Int) by decide); cases e'; exact hx
  rw [show ad.add 1 = ⟨ad.block, ad.off + 1, none⟩ from rfl] at hc1
  have HC1 := Lib.hid hc1
  clear hc1
  have hc2 : WX.cell? (ad.add 2) = some (.int .i64 a.f2) := by obtain ⟨ad', e', hx⟩ := Kd.at_int HCC.out 2 (by decide) (show (2 : Int) < ((10 : Nat) : Int) by decide); cases e'; exact hx
  rw [show ad.add 2 = ⟨ad.block, ad.off + 2, none⟩ from rfl] at hc2
  have HC2 := Lib.hid hc2
  clear hc2
  have hc3 : WX.cell? (ad.add 3) = some (.int .i64 a.f3) := by obtain ⟨ad', e', hx⟩ := Kd.at_int HCC.out 3 (by decide) (show (3 : Int) < ((10 : Nat) : Int) by decide); cases e'; exact hx
  rw [show ad.add 3 = ⟨ad.block, ad.off + 3, none⟩ from rfl] at hc3
  have HC3 := Lib.hid hc3
  clear hc3
  have hc4 : WX.cell? (ad.add 4) = some (.int .i64 a.f4.f0) := by obtain ⟨ad', e', hx⟩ := Kd.at_int HCC.out 4 (by decide) (show (4 : Int) < ((10 : Nat) : Int) by decide); cases e'; exact hx
  rw [show ad.add 4 = ⟨ad.block, ad.off + 4, none⟩ from rfl] at hc4
  have HC4 := Lib.hid hc4
  clear hc4
  have hc5 : WX.cell? (ad.add 5) = some (.int .i64 a.f4.f1) := by obtain ⟨ad', e', hx⟩ := Kd.at_int HCC.out 5 (by decide) (show (5 : Int) < ((10 : Nat) : Int) by decide); cases e'; exact hx
  rw [show ad.add 5 = ⟨ad.block, ad.off + 5, none⟩ from rfl] at hc5
  have HC5 := Lib.hid hc5
  clear hc5
  have hc6 : WX.cell? (ad.add 6) = some (.int .i64 a.f4.f2) := by obtain ⟨ad', e', hx⟩ := Kd.at_int HCC.out 6 (by decide) (show (6 : Int) < ((10 : Nat) : Int) by decide); cases e'; exact hx
  rw [show ad.add 6 = ⟨ad.block, ad.off + 6, none⟩ from rfl] at hc6
  have HC6 := Lib.hid hc6
  clear hc6
  have hc7 : WX.cell? (ad.add 7) = some (.int .i64 a.f4.f3) := by obtain ⟨ad', e', hx⟩ := Kd.at_int HCC.out 7 (by decide) (show (7 : Int) < ((10 : Nat) : Int) by decide); cases e'; exact hx
  rw [show ad.add 7 = ⟨ad.block, ad.off + 7, none⟩ from rfl] at hc7
  have HC7 := Lib.hid hc7
  clear hc7
  have hc8 : WX.cell? (ad.add 8) = some (.int .i64 a.f5) := by obtain ⟨ad', e', hx⟩ := Kd.at_int HCC.out 8 (by decide) (show (8 : Int) < ((10 : Nat) : Int) by decide); cases e'; exact hx
  rw [show ad.add 8 = ⟨ad.block, ad.off + 8, none⟩ from rfl] at hc8
  have HC8 := Lib.hid hc8
  clear hc8
  have hc9 : WX.cell? (ad.add 9) = some (.int .i64 a.f6) := by obtain ⟨ad', e', hx⟩ := Kd.at_int HCC.out 9 (by decide) (show (9 : Int) < ((10 : Nat) : Int) by decide); cases e'; exact hx
  rw [show ad.add 9 = ⟨ad.block, ad.off + 9, none⟩ from rfl] at hc9
  have HC9 := Lib.hid hc9
  clear hc9
  have hb8 : (8 : Int) ≤ (c : Int) := by omega
  have hc4 : ¬ c = 4 := by omega
  have harr : ∀ w_ : World, (Instr.arrayAt 42 (.slice (some ⟨ad.block, ad.off + 4, none⟩) 4 (c - 4))).run Try.prog w_ = .ok (.pointer (some ⟨ad.block, ad.off + 4, none⟩)) w_ := fun w_ => by simp [Instr.arrayAt, run_underlying Try.underlying42]
  refine wp_region_held_drew (S := fun w_ => Below WX.heap.size WX w_) (by kernel_rfl) (below_drew (Below.refl _ _)) (fun hS_ => ?_)
  have hS : Below WX.heap.size WX _ := hS_
  clear hS_
  change wpAnyH _ _ _ _ _ 25 #[false, false, false, false, false, false, false, false, false, false, false, false, false, false, false, false, false, false, false, false, false, false, false, false, false] _ _
  refine takeE 0 (some 21) #[true, false, false, false, false, false, false, false, false, false, false, false, false, false, false, false, false, false, false, false, false, false, false, false, false] hS ?_
  refine takeE 1 (some 22) #[true, true, false, false, false, false, false, false, false, false, false, false, false, false, false, false, false, false, false, false, false, false, false, false, false] hS ?_
  refine takeE 2 (some 23) #[true, true, true, false, false, false, false, false, false, false, false, false, false, false, false, false, false, false, false, false, false, false, false, false, false] hS ?_ (hy := fun w_ hS_ => by (replace hS_ : Below WX.heap.size WX w_ := hS_); have x0_ := below_cell hS_ HC0.out; go_simp <;> with_reducible rfl)
  refine takeE 3 (some 24) #[true, true, true, true, false, false, false, false, false, false, false, false, false, false, false, false, false, false, false, false, false, false, false, false, false] hS ?_
  refine takeE 4 (some 25) #[true, true, true, true, true, false, false, false, false, false, false, false, false, false, false, false, false, false, false, false, false, false, false, false, false] hS ?_
  refine takeE 5 (some 26) #[true, true, true, true, true, true, false, false, false, false, false, false, false, false, false, false, false, false, false, false, false, false, false, false, false] hS ?_ (hy := fun w_ hS_ => by (replace hS_ : Below WX.heap.size WX w_ := hS_); have x1_ := below_cell hS_ HC1.out; go_simp <;> with_reducible rfl)
  refine takeE 6 (some 27) #[true, true, true, true, true, true, true, false, false, false, false, false, false, false, false, false, false, false, false, false, false, false, false, false, false] hS ?_
  refine takeE 7 (some 28) #[true, true, true, true, true, true, true, true, false, false, false, false, false, false, false, false, false, false, false, false, false, false, false, false, false] hS ?_
  refine takeE 8 (some 29) #[true, true, true, true, true, true, true, true, true, false, false, false, false, false, false, false, false, false, false, false, false, false, false, false, false] hS ?_ (hy := fun w_ hS_ => by (replace hS_ : Below WX.heap.size WX w_ := hS_); have x2_ := below_cell hS_ HC2.out; go_simp <;> with_reducible rfl)
  refine takeE 9 (some 30) #[true, true, true, true, true, true, true, true, true, true, false, false, false, false, false, false, false, false, false, false, false, false, false, false, false] hS ?_
  refine takeE 10 (some 31) #[true, true, true, true, true, true, true, true, true, true, true, false, false, false, false, false, false, false, false, false, false, false, false, false, false] hS ?_
  refine takeE 11 (some 32) #[true, true, true, true, true, true, true, true, true, true, true, true, false, false, false, false, false, false, false, false, false, false, false, false, false] hS ?_ (hy := fun w_ hS_ => by (replace hS_ : Below WX.heap.size WX w_ := hS_); have x3_ := below_cell hS_ HC3.out; go_simp <;> with_reducible rfl)
  refine takeE 12 (some 33) #[true, true, true, true, true, true, true, true, true, true, true, true, true, false, false, false, false, false, false, false, false, false, false, false, false] hS ?_
  refine takeE 13 (some 34) #[true, true, true, true, true, true, true, true, true, true, true, true, true, true, false, false, false, false, false, false, false, false, false, false, false] hS ?_
  refine takeE 14 (some 35) #[true, true, true, true, true, true, true, true, true, true, true, true, true, true, true, false, false, false, false, false, false, false, false, false, false] hS ?_ (hy := fun w_ hS_ => by have h_ := harr w_; go_simp <;> with_reducible rfl)
  refine takeE 15 (some 36) #[true, true, true, true, true, true, true, true, true, true, true, true, true, true, true, true, false, false, false, false, false, false, false, false, false] hS ?_ (hy := fun w_ hS_ => by (replace hS_ : Below WX.heap.size WX w_ := hS_); have x4_ := below_cell hS_ HC4.out; have x5_ := below_cell hS_ HC5.out; have x6_ := below_cell hS_ HC6.out; have x7_ := below_cell hS_ HC7.out; go_simp <;> with_reducible rfl)
  refine takeE 16 (some 37) #[true, true, true, true, true, true, true, true, true, true, true, true, true, true, true, true, true, false, false, false, false, false, false, false, false] hS ?_
  refine takeE 17 (some 38) #[true, true, true, true, true, true, true, true, true, true, true, true, true, true, true, true, true, true, false, false, false, false, false, false, false] hS ?_
  refine takeE 18 (some 39) #[true, true, true, true, true, true, true, true, true, true, true, true, true, true, true, true, true, true, true, false, false, false, false, false, false] hS ?_ (hy := fun w_ hS_ => by (replace hS_ : Below WX.heap.size WX w_ := hS_); have x8_ := below_cell hS_ HC8.out; go_simp <;> with_reducible rfl)
  refine takeE 19 (some 40) #[true, true, true, true, true, true, true, true, true, true, true, true, true, true, true, true, true, true, true, true, false, false, false, false, false] hS ?_
  refine takeE 20 (some 41) #[true, true, true, true, true, true, true, true, true, true, true, true, true, true, true, true, true, true, true, true, true, false, false, false, false] hS ?_
  refine takeE 21 (some 42) #[true, true, true, true, true, true, true, true, true, true, true, true, true, true, true, true, true, true, true, true, true, true, false, false, false] hS ?_ (hy := fun w_ hS_ => by (replace hS_ : Below WX.heap.size WX w_ := hS_); have x9_ := below_cell hS_ HC9.out; go_simp <;> with_reducible rfl)
  refine takeE 22 (some 43) #[true, true, true, true, true, true, true, true, true, true, true, true, true, true, true, true, true, true, true, true, true, true, true, false, false] hS ?_
  have hSr := Lib.hid hS
  refine doD (i := 23) (ls2 := #[true, true, true, true, true, true, true, true, true, true, true, true, true, true, true, true, true, true, true, true, true, true, true, true, false]) (by kernel_rfl) rfl (by kernel_rfl) (by kernel_rfl) (fun K hK => ?_)
  go_simp
  refine hK.out _ _ ?_ (fun hS_ => ?_)
  · show Below WX.heap.size WX _
    exact hS.alloc hS.size _
  clear hK K hS
  have hS : Below WX.heap.size WX _ := hS_
  clear hS_
  refine doD (i := 24) (ls2 := #[true, true, true, true, true, true, true, true, true, true, true, true, true, true, true, true, true, true, true, true, true, true, true, true, true]) (by kernel_rfl) rfl (by kernel_rfl) (by kernel_rfl) (fun K hK => ?_)
  go_simp
  refine hK.out _ _ ?_ (fun hS_ => ?_)
  · show Below WX.heap.size WX _
    exact (hSr.out).alloc hSr.out.size _
  clear hK K hS
  have hS : Below WX.heap.size WX _ := hS_
  clear hS_
  refine wpAnyH_done (by kernel_rfl) ?_ _
  try go_simp
  clear hS hSr
  obtain ⟨W4, hW4⟩ : ∃ W, W = (WX.alloc (.cells #[.int .i64 a.f0, .int .i64 a.f1, .int .i64 a.f2, .int .i64 a.f3, .int .i64 a.f4.f0, .int .i64 a.f4.f1, .int .i64 a.f4.f2, .int .i64 a.f4.f3, .int .i64 a.f5, .int .i64 a.f6] 44)).drew := ⟨_, rfl⟩
  have hq4 : W4.heap[WX.heap.size]? = some (.cells #[.int .i64 a.f0, .int .i64 a.f1, .int .i64 a.f2, .int .i64 a.f3, .int .i64 a.f4.f0, .int .i64 a.f4.f1, .int .i64 a.f4.f2, .int .i64 a.f4.f3, .int .i64 a.f5, .int .i64 a.f6] 44 (0, 0)) := by rw [hW4]; exact blk_drew (heap_alloc_new _ _)
  have hz4 : W4.heap[w.heap.size]? = some (.cells #[.int .i64 0, .int .i64 0, .int .i64 0, .int .i64 0, .int .i64 0, .int .i64 0, .int .i64 0, .int .i64 0, .int .i64 0, .int .i64 0] 44 (0, 0)) := by rw [hW4]; exact blk_drew (blk_below (blk_below H0.out HB3.out) ((Below.refl _ _).alloc (Nat.le_refl _) _))
  have hb4 : Below w.heap.size w W4 := by rw [hW4]; exact below_drew ((HB.out.trans (HB3.out.mono HB.out.size)).alloc (HB.out.trans (HB3.out.mono HB.out.size)).size _)
  rw [← hW4]
  have z0 : W4.cell? ⟨WX.heap.size, 0, none⟩ = some (.int .i64 a.f0) := (blk_cell hq4 0).trans rfl
  have z1 : W4.cell? ⟨WX.heap.size, 1, none⟩ = some (.int .i64 a.f1) := (blk_cell hq4 1).trans rfl
  have z2 : W4.cell? ⟨WX.heap.size, 2, none⟩ = some (.int .i64 a.f2) := (blk_cell hq4 2).trans rfl
  have z3 : W4.cell? ⟨WX.heap.size, 3, none⟩ = some (.int .i64 a.f3) := (blk_cell hq4 3).trans rfl
  have z4 : W4.cell? ⟨WX.heap.size, 4, none⟩ = some (.int .i64 a.f4.f0) := (blk_cell hq4 4).trans rfl
  have z5 : W4.cell? ⟨WX.heap.size, 5, none⟩ = some (.int .i64 a.f4.f1) := (blk_cell hq4 5).trans rfl
  have z6 : W4.cell? ⟨WX.heap.size, 6, none⟩ = some (.int .i64 a.f4.f2) := (blk_cell hq4 6).trans rfl
  have z7 : W4.cell? ⟨WX.heap.size, 7, none⟩ = some (.int .i64 a.f4.f3) := (blk_cell hq4 7).trans rfl
  have z8 : W4.cell? ⟨WX.heap.size, 8, none⟩ = some (.int .i64 a.f5) := (blk_cell hq4 8).trans rfl
  have z9 : W4.cell? ⟨WX.heap.size, 9, none⟩ = some (.int .i64 a.f6) := (blk_cell hq4 9).trans rfl
  have HQ4 := Lib.hid hq4
  have HZ4 := Lib.hid hz4
  have HB4 := Lib.hid hb4
  clear hW4 hq4 hz4 hb4 hb8 hc4 harr hcl hln
  cases q with
  | true =>
    go_wp2_with (first | (go_at_call 47; go_loud ((with_reducible refine (HCHK.out _).mono ?_); rintro e w5 ⟨rfl, hb5⟩; unfold argE; have hq5 := blk_below HQ4.out hb5; have hz5 := blk_below HZ4.out hb5; have z0 : w5.cell? ⟨WX.heap.size, 0, none⟩ = some (.int .i64 a.f0) := (blk_cell hq5 0).trans rfl; have y0 : w5.cell? ⟨w.heap.size, 0, none⟩ = some (.int .i64 0) := (blk_cell hz5 0).trans rfl; have f0 := blk_frozen hz5 0; have z1 : w5.cell? ⟨WX.heap.size, 1, none⟩ = some (.int .i64 a.f1) := (blk_cell hq5 1).trans rfl; have y1 : w5.cell? ⟨w.heap.size, 1, none⟩ = some (.int .i64 0) := (blk_cell hz5 1).trans rfl; have f1 := blk_frozen hz5 1; have z2 : w5.cell? ⟨WX.heap.size, 2, none⟩ = some (.int .i64 a.f2) := (blk_cell hq5 2).trans rfl; have y2 : w5.cell? ⟨w.heap.size, 2, none⟩ = some (.int .i64 0) := (blk_cell hz5 2).trans rfl; have f2 := blk_frozen hz5 2; have z3 : w5.cell? ⟨WX.heap.size, 3, none⟩ = some (.int .i64 a.f3) := (blk_cell hq5 3).trans rfl; have y3 : w5.cell? ⟨w.heap.size, 3, none⟩ = some (.int .i64 0) := (blk_cell hz5 3).trans rfl; have f3 := blk_frozen hz5 3; have z4 : w5.cell? ⟨WX.heap.size, 4, none⟩ = some (.int .i64 a.f4.f0) := (blk_cell hq5 4).trans rfl; have y4 : w5.cell? ⟨w.heap.size, 4, none⟩ = some (.int .i64 0) := (blk_cell hz5 4).trans rfl; have f4 := blk_frozen hz5 4; have z5 : w5.cell? ⟨WX.heap.size, 5, none⟩ = some (.int .i64 a.f4.f1) := (blk_cell hq5 5).trans rfl; have y5 : w5.cell? ⟨w.heap.size, 5, none⟩ = some (.int .i64 0) := (blk_cell hz5 5).trans rfl; have f5 := blk_frozen hz5 5; have z6 : w5.cell? ⟨WX.heap.size, 6, none⟩ = some (.int .i64 a.f4.f2) := (blk_cell hq5 6).trans rfl; have y6 : w5.cell? ⟨w.heap.size, 6, none⟩ = some (.int .i64 0) := (blk_cell hz5 6).trans rfl; have f6 := blk_frozen hz5 6; have z7 : w5.cell? ⟨WX.heap.size, 7, none⟩ = some (.int .i64 a.f4.f3) := (blk_cell hq5 7).trans rfl; have y7 : w5.cell? ⟨w.heap.size, 7, none⟩ = some (.int .i64 0) := (blk_cell hz5 7).trans rfl; have f7 := blk_frozen hz5 7; have z8 : w5.cell? ⟨WX.heap.size, 8, none⟩ = some (.int .i64 a.f5) := (blk_cell hq5 8).trans rfl; have y8 : w5.cell? ⟨w.heap.size, 8, none⟩ = some (.int .i64 0) := (blk_cell hz5 8).trans rfl; have f8 := blk_frozen hz5 8; have z9 : w5.cell? ⟨WX.heap.size, 9, none⟩ = some (.int .i64 a.f6) := (blk_cell hq5 9).trans rfl; have y9 : w5.cell? ⟨w.heap.size, 9, none⟩ = some (.int .i64 0) := (blk_cell hz5 9).trans rfl; have f9 := blk_frozen hz5 9; have HZ5 := Lib.hid hz5; have HB5 := Lib.hid (HB4.out.trans (hb5.mono HB4.out.size)); clear hq5 hz5 hb5)))
    refine bodyPost_ret (results_ct' rfl _ _ w.heap.size 44 #[.int .i64 a.f0, .int .i64 a.f1, .int .i64 a.f2, .int .i64 a.f3, .int .i64 a.f4.f0, .int .i64 a.f4.f1, .int .i64 a.f4.f2, .int .i64 a.f4.f3, .int .i64 a.f5, .int .i64 a.f6] (0, 0) _ rfl (put44_heap HZ5.out (.int .i64 a.f0) (.int .i64 a.f1) (.int .i64 a.f2) (.int .i64 a.f3) (.int .i64 a.f4.f0) (.int .i64 a.f4.f1) (.int .i64 a.f4.f2) (.int .i64 a.f4.f3) (.int .i64 a.f5) (.int .i64 a.f6)) Try.underlying44 rfl (by kernel_rfl)) rfl ?_
    exact ⟨rfl, put44_below HB5.out (Nat.le_refl _) (.int .i64 a.f0) (.int .i64 a.f1) (.int .i64 a.f2) (.int .i64 a.f3) (.int .i64 a.f4.f0) (.int .i64 a.f4.f1) (.int .i64 a.f4.f2) (.int .i64 a.f4.f3) (.int .i64 a.f5) (.int .i64 a.f6)⟩
  | false =>
    go_wp2_with (first | (go_at_call 47; go_loud ((with_reducible refine (HCHK.out _).mono ?_); rintro e w5 ⟨rfl, hb5⟩; unfold argE; have hq5 := blk_below HQ4.out hb5; have hz5 := blk_below HZ4.out hb5; have z0 : w5.cell? ⟨WX.heap.size, 0, none⟩ = some (.int .i64 a.f0) := (blk_cell hq5 0).trans rfl; have y0 : w5.cell? ⟨w.heap.size, 0, none⟩ = some (.int .i64 0) := (blk_cell hz5 0).trans rfl; have f0 := blk_frozen hz5 0; have z1 : w5.cell? ⟨WX.heap.size, 1, none⟩ = some (.int .i64 a.f1) := (blk_cell hq5 1).trans rfl; have y1 : w5.cell? ⟨w.heap.size, 1, none⟩ = some (.int .i64 0) := (blk_cell hz5 1).trans rfl; have f1 := blk_frozen hz5 1; have z2 : w5.cell? ⟨WX.heap.size, 2, none⟩ = some (.int .i64 a.f2) := (blk_cell hq5 2).trans rfl; have y2 : w5.cell? ⟨w.heap.size, 2, none⟩ = some (.int .i64 0) := (blk_cell hz5 2).trans rfl; have f2 := blk_frozen hz5 2; have z3 : w5.cell? ⟨WX.heap.size, 3, none⟩ = some (.int .i64 a.f3) := (blk_cell hq5 3).trans rfl; have y3 : w5.cell? ⟨w.heap.size, 3, none⟩ = some (.int .i64 0) := (blk_cell hz5 3).trans rfl; have f3 := blk_frozen hz5 3; have z4 : w5.cell? ⟨WX.heap.size, 4, none⟩ = some (.int .i64 a.f4.f0) := (blk_cell hq5 4).trans rfl; have y4 : w5.cell? ⟨w.heap.size, 4, none⟩ = some (.int .i64 0) := (blk_cell hz5 4).trans rfl; have f4 := blk_frozen hz5 4; have z5 : w5.cell? ⟨WX.heap.size, 5, none⟩ = some (.int .i64 a.f4.f1) := (blk_cell hq5 5).trans rfl; have y5 : w5.cell? ⟨w.heap.size, 5, none⟩ = some (.int .i64 0) := (blk_cell hz5 5).trans rfl; have f5 := blk_frozen hz5 5; have z6 : w5.cell? ⟨WX.heap.size, 6, none⟩ = some (.int .i64 a.f4.f2) := (blk_cell hq5 6).trans rfl; have y6 : w5.cell? ⟨w.heap.size, 6, none⟩ = some (.int .i64 0) := (blk_cell hz5 6).trans rfl; have f6 := blk_frozen hz5 6; have z7 : w5.cell? ⟨WX.heap.size, 7, none⟩ = some (.int .i64 a.f4.f3) := (blk_cell hq5 7).trans rfl; have y7 : w5.cell? ⟨w.heap.size, 7, none⟩ = some (.int .i64 0) := (blk_cell hz5 7).trans rfl; have f7 := blk_frozen hz5 7; have z8 : w5.cell? ⟨WX.heap.size, 8, none⟩ = some (.int .i64 a.f5) := (blk_cell hq5 8).trans rfl; have y8 : w5.cell? ⟨w.heap.size, 8, none⟩ = some (.int .i64 0) := (blk_cell hz5 8).trans rfl; have f8 := blk_frozen hz5 8; have z9 : w5.cell? ⟨WX.heap.size, 9, none⟩ = some (.int .i64 a.f6) := (blk_cell hq5 9).trans rfl; have y9 : w5.cell? ⟨w.heap.size, 9, none⟩ = some (.int .i64 0) := (blk_cell hz5 9).trans rfl; have f9 := blk_frozen hz5 9; have HZ5 := Lib.hid hz5; have HB5 := Lib.hid (HB4.out.trans (hb5.mono HB4.out.size)); clear hq5 hz5 hb5)))
    refine bodyPost_ret (results_ct' rfl _ _ w.heap.size 44 #[.int .i64 0, .int .i64 0, .int .i64 0, .int .i64 0, .int .i64 0, .int .i64 0, .int .i64 0, .int .i64 0, .int .i64 0, .int .i64 0] (0, 0) _ rfl (put44_heap HZ5.out (.int .i64 0) (.int .i64 0) (.int .i64 0) (.int .i64 0) (.int .i64 0) (.int .i64 0) (.int .i64 0) (.int .i64 0) (.int .i64 0) (.int .i64 0)) Try.underlying44 rfl (by kernel_rfl)) rfl ?_
    exact ⟨rfl, put44_below HB5.out (Nat.le_refl _) (.int .i64 0) (.int .i64 0) (.int .i64 0) (.int .i64 0) (.int .i64 0) (.int .i64 0) (.int .i64 0) (.int .i64 0) (.int .i64 0) (.int .i64 0)⟩
theorem isEmpty_no {r : ByteArray} (h : r ≠ ⟨#[]⟩) : r.toList.isEmpty = false := by
  rw [Bool.eq_false_iff]
  intro h2
  rw [List.isEmpty_iff] at h2
  exact h (ext_list (by rw [h2, Lib.toList_data]))
set_option maxHeartbeats 8000000 in
set_option maxRecDepth 100000 in
/-- Decode of a text that is not of ten numbers. -/
theorem decodeN_calls (s : ByteArray) (hs : s.size ≤ 1000000000) (t : List Int) (r : ByteArray) (e : Int) (hT0 : takeAllL 10 s [] = (t, r, e)) (hne : e ≠ 0 ∨ r ≠ ⟨#[]⟩) (w : World) :
    Calls Try.prog 70 #[.string s] w fun e w' => e = .returned (.tuple #[aggV z44, .int .i64 2]) ∧ Below w.heap.size w w' := by
  have htk : ∀ w, Calls Try.prog 69 #[.string s, .int .i64 10] w fun e' w' => ∃ v, e' = .returned (.tuple #[v, .string r, .int .i64 e]) ∧ Kd.R (Kd.int .i64) 3 w' w.heap.size (fun _ => True) v t ∧ Below w.heap.size w w' := by
    intro w
    have h := takeAll_calls s 10 (by decide) hs w
    rw [hT0] at h
    exact h
  have HTK := Lib.hid htk
  obtain ⟨W1, hW1⟩ : ∃ W, W = (w.alloc (.cells #[.int .i64 0, .int .i64 0, .int .i64 0, .int .i64 0, .int .i64 0, .int .i64 0, .int .i64 0, .int .i64 0, .int .i64 0, .int .i64 0] 44)) := ⟨_, rfl⟩
  have h0 : W1.heap[w.heap.size]? = some (.cells #[.int .i64 0, .int .i64 0, .int .i64 0, .int .i64 0, .int .i64 0, .int .i64 0, .int .i64 0, .int .i64 0, .int .i64 0, .int .i64 0] 44 (0, 0)) := by rw [hW1]; exact heap_alloc_new _ _
  have hb : Below w.heap.size w W1 := by rw [hW1]; exact below_alloc (Below.refl _ _) _
  have HB := Lib.hid hb
  have HW1 := Lib.hid hW1
  have H0 := Lib.hid h0
  have hu := Try.underlying44
  clear hW1 h0 hb htk hT0 hs
  by_cases he : e = 0
  · have hr : r ≠ ⟨#[]⟩ := by rcases hne with h | h; exact absurd he h; exact h
    subst he
    have e1 := isEmpty_no hr
    clear hne hr
    go_enter Try.func70, Try.ntmps70
    go_upto_region 1 with fail
    rw [← HW1.out]
    go_wp2_with (first | (go_at_call 69; go_loud ((with_reducible refine (HTK.out _).mono ?_); rintro e' WX ⟨v, rfl, hR, hb3⟩; obtain ⟨A, c, rfl, hc, hC⟩ := Kd.R_reads hR; have hz5 := blk_below H0.out hb3; have y0 : WX.cell? ⟨w.heap.size, 0, none⟩ = some (.int .i64 0) := (blk_cell hz5 0).trans rfl; have f0 := blk_frozen hz5 0; have y1 : WX.cell? ⟨w.heap.size, 1, none⟩ = some (.int .i64 0) := (blk_cell hz5 1).trans rfl; have f1 := blk_frozen hz5 1; have y2 : WX.cell? ⟨w.heap.size, 2, none⟩ = some (.int .i64 0) := (blk_cell hz5 2).trans rfl; have f2 := blk_frozen hz5 2; have y3 : WX.cell? ⟨w.heap.size, 3, none⟩ = some (.int .i64 0) := (blk_cell hz5 3).trans rfl; have f3 := blk_frozen hz5 3; have y4 : WX.cell? ⟨w.heap.size, 4, none⟩ = some (.int .i64 0) := (blk_cell hz5 4).trans rfl; have f4 := blk_frozen hz5 4; have y5 : WX.cell? ⟨w.heap.size, 5, none⟩ = some (.int .i64 0) := (blk_cell hz5 5).trans rfl; have f5 := blk_frozen hz5 5; have y6 : WX.cell? ⟨w.heap.size, 6, none⟩ = some (.int .i64 0) := (blk_cell hz5 6).trans rfl; have f6 := blk_frozen hz5 6; have y7 : WX.cell? ⟨w.heap.size, 7, none⟩ = some (.int .i64 0) := (blk_cell hz5 7).trans rfl; have f7 := blk_frozen hz5 7; have y8 : WX.cell? ⟨w.heap.size, 8, none⟩ = some (.int .i64 0) := (blk_cell hz5 8).trans rfl; have f8 := blk_frozen hz5 8; have y9 : WX.cell? ⟨w.heap.size, 9, none⟩ = some (.int .i64 0) := (blk_cell hz5 9).trans rfl; have f9 := blk_frozen hz5 9; have HZ5 := Lib.hid hz5; have HB5 := Lib.hid (HB.out.trans (hb3.mono HB.out.size)); clear hR hb3 hC hc hz5)))
    refine bodyPost_ret (results_ct' rfl _ _ w.heap.size 44 #[.int .i64 0, .int .i64 0, .int .i64 0, .int .i64 0, .int .i64 0, .int .i64 0, .int .i64 0, .int .i64 0, .int .i64 0, .int .i64 0] (0, 0) _ rfl (put44_heap HZ5.out (.int .i64 0) (.int .i64 0) (.int .i64 0) (.int .i64 0) (.int .i64 0) (.int .i64 0) (.int .i64 0) (.int .i64 0) (.int .i64 0) (.int .i64 0)) Try.underlying44 rfl (by kernel_rfl)) rfl ?_
    exact ⟨rfl, put44_below HB5.out (Nat.le_refl _) (.int .i64 0) (.int .i64 0) (.int .i64 0) (.int .i64 0) (.int .i64 0) (.int .i64 0) (.int .i64 0) (.int .i64 0) (.int .i64 0) (.int .i64 0)⟩
  · have e1 : (e == 0) = false := beq_eq_false_iff_ne.2 he
    have e2 : (e != 0) = true := bne_iff_ne.2 he
    clear hne
    go_enter Try.func70, Try.ntmps70
    go_upto_region 1 with fail
    rw [← HW1.out]
    go_wp2_with (first | (go_at_call 69; go_loud ((with_reducible refine (HTK.out _).mono ?_); rintro e' WX ⟨v, rfl, hR, hb3⟩; obtain ⟨A, c, rfl, hc, hC⟩ := Kd.R_reads hR; have hz5 := blk_below H0.out hb3; have y0 : WX.cell? ⟨w.heap.size, 0, none⟩ = some (.int .i64 0) := (blk_cell hz5 0).trans rfl; have f0 := blk_frozen hz5 0; have y1 : WX.cell? ⟨w.heap.size, 1, none⟩ = some (.int .i64 0) := (blk_cell hz5 1).trans rfl; have f1 := blk_frozen hz5 1; have y2 : WX.cell? ⟨w.heap.size, 2, none⟩ = some (.int .i64 0) := (blk_cell hz5 2).trans rfl; have f2 := blk_frozen hz5 2; have y3 : WX.cell? ⟨w.heap.size, 3, none⟩ = some (.int .i64 0) := (blk_cell hz5 3).trans rfl; have f3 := blk_frozen hz5 3; have y4 : WX.cell? ⟨w.heap.size, 4, none⟩ = some (.int .i64 0) := (blk_cell hz5 4).trans rfl; have f4 := blk_frozen hz5 4; have y5 : WX.cell? ⟨w.heap.size, 5, none⟩ = some (.int .i64 0) := (blk_cell hz5 5).trans rfl; have f5 := blk_frozen hz5 5; have y6 : WX.cell? ⟨w.heap.size, 6, none⟩ = some (.int .i64 0) := (blk_cell hz5 6).trans rfl; have f6 := blk_frozen hz5 6; have y7 : WX.cell? ⟨w.heap.size, 7, none⟩ = some (.int .i64 0) := (blk_cell hz5 7).trans rfl; have f7 := blk_frozen hz5 7; have y8 : WX.cell? ⟨w.heap.size, 8, none⟩ = some (.int .i64 0) := (blk_cell hz5 8).trans rfl; have f8 := blk_frozen hz5 8; have y9 : WX.cell? ⟨w.heap.size, 9, none⟩ = some (.int .i64 0) := (blk_cell hz5 9).trans rfl; have f9 := blk_frozen hz5 9; have HZ5 := Lib.hid hz5; have HB5 := Lib.hid (HB.out.trans (hb3.mono HB.out.size)); clear hR hb3 hC hc hz5)))
    refine bodyPost_ret (results_ct' rfl _ _ w.heap.size 44 #[.int .i64 0, .int .i64 0, .int .i64 0, .int .i64 0, .int .i64 0, .int .i64 0, .int .i64 0, .int .i64 0, .int .i64 0, .int .i64 0] (0, 0) _ rfl (put44_heap HZ5.out (.int .i64 0) (.int .i64 0) (.int .i64 0) (.int .i64 0) (.int .i64 0) (.int .i64 0) (.int .i64 0) (.int .i64 0) (.int .i64 0) (.int .i64 0)) Try.underlying44 rfl (by kernel_rfl)) rfl ?_
    exact ⟨rfl, put44_below HB5.out (Nat.le_refl _) (.int .i64 0) (.int .i64 0) (.int .i64 0) (.int .i64 0) (.int .i64 0) (.int .i64 0) (.int .i64 0) (.int .i64 0) (.int .i64 0) (.int .i64 0)⟩
/-- Decode of any text. -/
theorem decode2_calls (s : ByteArray) (hs : s.size ≤ 1000000000) (w : World) :
    Calls Try.prog 70 #[.string s] w fun e w' => e = .returned (.tuple #[aggV (decP s).1, .int .i64 (decP s).2]) ∧ Below w.heap.size w w' := by
  obtain ⟨T, hT⟩ : ∃ T, takeAllL 10 s [] = T := ⟨_, rfl⟩
  obtain ⟨t, r, e⟩ := T
  unfold decP
  by_cases he : e = 0 ∧ r = ⟨#[]⟩
  · obtain ⟨rfl, rfl⟩ := he
    obtain ⟨vs, h1, h2, _, _⟩ := takeAll_back 10 s [] (by rw [hT])
    rw [hT, List.nil_append] at h2
    have h2 : t = vs := h2
    subst h2
    refine (decodeM_calls s hs (aggO t) (by rw [hT, aggO_L t h1]) w).mono ?_
    rintro e w' ⟨rfl, hb⟩
    refine ⟨?_, hb⟩
    rw [hT]
    simp only
    cases aggOk (aggO t) <;> simp
  · refine (decodeN_calls s hs t r e hT (by by_cases c : e = 0; exact .inr (fun h => he ⟨c, h⟩); exact .inl c) w).mono ?_
    rintro e' w' ⟨rfl, hb⟩
    refine ⟨?_, hb⟩
    rw [hT, if_neg (fun h => he ⟨h.1, h.2.1⟩)]
end Go.Proofs.Ytgipepjpkmlmaaa.P
