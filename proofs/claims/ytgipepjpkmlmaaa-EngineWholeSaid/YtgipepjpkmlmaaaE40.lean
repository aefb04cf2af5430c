import Derived.Test.YtgipepjpkmlmaaaMA
import Derived.Test.YtgipepjpkmlmaaaMC
namespace Go.Proofs.Ytgipepjpkmlmaaa.P
open Go.RowKit Go.Proofs.YtgipepjpkmlmaaaW.PrintWords Go.Proofs.YtgipepjpkmlmaaaW.PrintLast Go.Proofs.YtgipepjpkmlmaaaW.PrintMore
set_option linter.unusedVariables false
set_option linter.unusedSimpArgs false

def put44 (w : World) (g : Nat) (a0 a1 a2 a3 a4 a5 a6 a7 a8 a9 : Value) : World := ((((((((((w.setCell ⟨g, 0, none⟩ a0).setCell ⟨g, 1, none⟩ a1).setCell ⟨g, 2, none⟩ a2).setCell ⟨g, 3, none⟩ a3).setCell ⟨g, 4, none⟩ a4).setCell ⟨g, 5, none⟩ a5).setCell ⟨g, 6, none⟩ a6).setCell ⟨g, 7, none⟩ a7).setCell ⟨g, 8, none⟩ a8).setCell ⟨g, 9, none⟩ a9)
theorem put44_heap {w : World} {g : Nat} {b0 b1 b2 b3 b4 b5 b6 b7 b8 b9 : Value} (h : w.heap[g]? = some (.cells #[b0, b1, b2, b3, b4, b5, b6, b7, b8, b9] 44 (0, 0))) (a0 a1 a2 a3 a4 a5 a6 a7 a8 a9 : Value) : (put44 w g a0 a1 a2 a3 a4 a5 a6 a7 a8 a9).heap[g]? = some (.cells #[a0, a1, a2, a3, a4, a5, a6, a7, a8, a9] 44 (0, 0)) := by
  unfold put44
  have g0 := blk_put (cs' := #[a0, b1, b2, b3, b4, b5, b6, b7, b8, b9]) h 0 a0 rfl
  have g1 := blk_put (cs' := #[a0, a1, b2, b3, b4, b5, b6, b7, b8, b9]) g0 1 a1 rfl
  have g2 := blk_put (cs' := #[a0, a1, a2, b3, b4, b5, b6, b7, b8, b9]) g1 2 a2 rfl
  have g3 := blk_put (cs' := #[a0, a1, a2, a3, b4, b5, b6, b7, b8, b9]) g2 3 a3 rfl
  have g4 := blk_put (cs' := #[a0, a1, a2, a3, a4, b5, b6, b7, b8, b9]) g3 4 a4 rfl
  have g5 := blk_put (cs' := #[a0, a1, a2, a3, a4, a5, b6, b7, b8, b9]) g4 5 a5 rfl
  have g6 := blk_put (cs' := #[a0, a1, a2, a3, a4, a5, a6, b7, b8, b9]) g5 6 a6 rfl
  have g7 := blk_put (cs' := #[a0, a1, a2, a3, a4, a5, a6, a7, b8, b9]) g6 7 a7 rfl
  have g8 := blk_put (cs' := #[a0, a1, a2, a3, a4, a5, a6, a7, a8, b9]) g7 8 a8 rfl
  have g9 := blk_put (cs' := #[a0, a1, a2, a3, a4, a5, a6, a7, a8, a9]) g8 9 a9 rfl
  exact g9
theorem put44_other {w : World} {g k : Nat} (h : k ≠ g) (a0 a1 a2 a3 a4 a5 a6 a7 a8 a9 : Value) : (put44 w g a0 a1 a2 a3 a4 a5 a6 a7 a8 a9).heap[k]? = w.heap[k]? := by
  have e : put44 w g a0 a1 a2 a3 a4 a5 a6 a7 a8 a9 = putL w g 0 [a0, a1, a2, a3, a4, a5, a6, a7, a8, a9] := rfl
  rw [e]
  exact putL_other h _ _ _
theorem put44_below {B g : Nat} {w0 w : World} (h : Below B w0 w) (hg : B ≤ g) (a0 a1 a2 a3 a4 a5 a6 a7 a8 a9 : Value) : Below B w0 (put44 w g a0 a1 a2 a3 a4 a5 a6 a7 a8 a9) := by
  unfold put44
  exact ((((((((((h.setCell hg _).setCell hg _).setCell hg _).setCell hg _).setCell hg _).setCell hg _).setCell hg _).setCell hg _).setCell hg _).setCell hg _)
theorem allA_aggI : ∀ (vs : List Int) (a : S44), aggI a → aggI (vs.foldl addP a)
  | [], a, h => h
  | v :: vs, a, h => allA_aggI vs (addP a v) (aggI_add h v)
set_option maxHeartbeats 16000000 in
set_option maxRecDepth 100000 in
theorem allR_calls (vs : List Int) (hv : ∀ v ∈ vs, -9223372036854775808 ≤ v ∧ v ≤ 9223372036854775807) (hl : vs.length ≤ 1000) (A : Option Addr) (c : Nat) (w : World) (hr : (Kd.int .i64).C w A vs.length vs) (hc : vs.length ≤ c) :
    Calls Try.prog 26 #[.slice A vs.length c] w fun e w' => e = .returned (aggV (allA vs)) ∧ Below w.heap.size w w' := by
  have hu := Try.underlying44
  have hz : ∀ w, (zeroValue 44).run Try.prog w = .ok (.agg #[.int .i64 0, .int .i64 0, .int .i64 0, .int .i64 0, .int .i64 0, .int .i64 0, .int .i64 0, .int .i64 0, .int .i64 0, .int .i64 0]) w := fun w => by kernel_rfl
  obtain ⟨W2, hW2⟩ : ∃ W, W = (w.alloc (.cells #[.int .i64 0, .int .i64 0, .int .i64 0, .int .i64 0, .int .i64 0, .int .i64 0, .int .i64 0, .int .i64 0, .int .i64 0, .int .i64 0] 44)).alloc (.cells #[.int .i64 0, .int .i64 0, .int .i64 0, .int .i64 0, .int .i64 0, .int .i64 0, .int .i64 0, .int .i64 0, .int .i64 0, .int .i64 0] 44) := ⟨_, rfl⟩
  have h0 : W2.heap[w.heap.size]? = some (.cells #[.int .i64 0, .int .i64 0, .int .i64 0, .int .i64 0, .int .i64 0, .int .i64 0, .int .i64 0, .int .i64 0, .int .i64 0, .int .i64 0] 44 (0, 0)) := by
    rw [hW2, Below.heap_alloc _ _ _ (by simp)]
    exact heap_alloc_new _ _
  have h1 : W2.heap[w.heap.size + 1]? = some (.cells #[.int .i64 0, .int .i64 0, .int .i64 0, .int .i64 0, .int .i64 0, .int .i64 0, .int .i64 0, .int .i64 0, .int .i64 0, .int .i64 0] 44 (0, 0)) := by
    rw [hW2]
    have := heap_alloc_new (w.alloc (.cells #[.int .i64 0, .int .i64 0, .int .i64 0, .int .i64 0, .int .i64 0, .int .i64 0, .int .i64 0, .int .i64 0, .int .i64 0, .int .i64 0] 44)) (.cells #[.int .i64 0, .int .i64 0, .int .i64 0, .int .i64 0, .int .i64 0, .int .i64 0, .int .i64 0, .int .i64 0, .int .i64 0, .int .i64 0] 44)
    simpa using this
  have hb : Below w.heap.size w W2 := by rw [hW2]; exact below_alloc (below_alloc (Below.refl _ _) _) _
  have HW2 := Lib.hid hW2
  have H0 := Lib.hid h0
  have H1 := Lib.hid h1
  have HB := Lib.hid hb
  have HC := Lib.hid hr
  have HV := Lib.hid hv
  clear hW2 h0 h1 hb hr hv
  go_enter Try.func26, Try.ntmps26
  go_upto_region 2 with fail
  rw [← HW2.out]
  go_wp2
  go_loopg [4] vs.length (fun kq v4 WX => ∃ (i : Nat), v4 = .int .i64 (i : Int) ∧ i ≤ vs.length ∧ vs.length - i ≤ kq ∧ WX.heap[w.heap.size]? = some (.cells #[.int .i64 0, .int .i64 0, .int .i64 0, .int .i64 0, .int .i64 0, .int .i64 0, .int .i64 0, .int .i64 0, .int .i64 0, .int .i64 0] 44 (0, 0)) ∧ (∃ a, a = allA (vs.take i) ∧ WX.heap[w.heap.size + 1]? = some (.cells #[.int .i64 a.f0, .int .i64 a.f1, .int .i64 a.f2, .int .i64 a.f3, .int .i64 a.f4.f0, .int .i64 a.f4.f1, .int .i64 a.f4.f2, .int .i64 a.f4.f3, .int .i64 a.f5, .int .i64 a.f6] 44 (0, 0))) ∧ Below w.heap.size w WX)
  case atStart => exact ⟨0, rfl, Nat.zero_le _, by omega, H0.out, ⟨_, rfl, H1.out⟩, HB.out⟩
  case round =>
    obtain ⟨i, rfl, hil, hik, hr0, ⟨a, ha, hr1⟩, hbw⟩ := hrel
    have HR0 := Lib.hid hr0
    have HR1 := Lib.hid hr1
    have HBW := Lib.hid hbw
    have HA := Lib.hid ha
    by_cases hlt : i < vs.length
    rotate_left
    · have d1 : decide ((i : Int) < (vs.length : Int)) = false := decide_eq_false (by omega)
      have e : allA vs = a := by rw [ha, List.take_of_length_le (by omega)]
      have HE := Lib.hid e
      have z0 : wr.cell? ⟨w.heap.size + 1, 0, none⟩ = some (.int .i64 a.f0) := (blk_cell hr1 0).trans rfl
      have y0 : wr.cell? ⟨w.heap.size, 0, none⟩ = some (.int .i64 0) := (blk_cell hr0 0).trans rfl
      have z1 : wr.cell? ⟨w.heap.size + 1, 1, none⟩ = some (.int .i64 a.f1) := (blk_cell hr1 1).trans rfl
      have y1 : wr.cell? ⟨w.heap.size, 1, none⟩ = some (.int .i64 0) := (blk_cell hr0 1).trans rfl
      have z2 : wr.cell? ⟨w.heap.size + 1, 2, none⟩ = some (.int .i64 a.f2) := (blk_cell hr1 2).trans rfl
      have y2 : wr.cell? ⟨w.heap.size, 2, none⟩ = some (.int .i64 0) := (blk_cell hr0 2).trans rfl
      have z3 : wr.cell? ⟨w.heap.size + 1, 3, none⟩ = some (.int .i64 a.f3) := (blk_cell hr1 3).trans rfl
      have y3 : wr.cell? ⟨w.heap.size, 3, none⟩ = some (.int .i64 0) := (blk_cell hr0 3).trans rfl
      have z4 : wr.cell? ⟨w.heap.size + 1, 4, none⟩ = some (.int .i64 a.f4.f0) := (blk_cell hr1 4).trans rfl
      have y4 : wr.cell? ⟨w.heap.size, 4, none⟩ = some (.int .i64 0) := (blk_cell hr0 4).trans rfl
      have z5 : wr.cell? ⟨w.heap.size + 1, 5, none⟩ = some (.int .i64 a.f4.f1) := (blk_cell hr1 5).trans rfl
      have y5 : wr.cell? ⟨w.heap.size, 5, none⟩ = some (.int .i64 0) := (blk_cell hr0 5).trans rfl
      have z6 : wr.cell? ⟨w.heap.size + 1, 6, none⟩ = some (.int .i64 a.f4.f2) := (blk_cell hr1 6).trans rfl
      have y6 : wr.cell? ⟨w.heap.size, 6, none⟩ = some (.int .i64 0) := (blk_cell hr0 6).trans rfl
      have z7 : wr.cell? ⟨w.heap.size + 1, 7, none⟩ = some (.int .i64 a.f4.f3) := (blk_cell hr1 7).trans rfl
      have y7 : wr.cell? ⟨w.heap.size, 7, none⟩ = some (.int .i64 0) := (blk_cell hr0 7).trans rfl
      have z8 : wr.cell? ⟨w.heap.size + 1, 8, none⟩ = some (.int .i64 a.f5) := (blk_cell hr1 8).trans rfl
      have y8 : wr.cell? ⟨w.heap.size, 8, none⟩ = some (.int .i64 0) := (blk_cell hr0 8).trans rfl
      have z9 : wr.cell? ⟨w.heap.size + 1, 9, none⟩ = some (.int .i64 a.f6) := (blk_cell hr1 9).trans rfl
      have y9 : wr.cell? ⟨w.heap.size, 9, none⟩ = some (.int .i64 0) := (blk_cell hr0 9).trans rfl
      have f0 : wr.frozen? ⟨w.heap.size, 0, none⟩ = false := blk_frozen hr0 0
      have f1 : wr.frozen? ⟨w.heap.size, 1, none⟩ = false := blk_frozen hr0 1
      have f2 : wr.frozen? ⟨w.heap.size, 2, none⟩ = false := blk_frozen hr0 2
      have f3 : wr.frozen? ⟨w.heap.size, 3, none⟩ = false := blk_frozen hr0 3
      have f4 : wr.frozen? ⟨w.heap.size, 4, none⟩ = false := blk_frozen hr0 4
      have f5 : wr.frozen? ⟨w.heap.size, 5, none⟩ = false := blk_frozen hr0 5
      have f6 : wr.frozen? ⟨w.heap.size, 6, none⟩ = false := blk_frozen hr0 6
      have f7 : wr.frozen? ⟨w.heap.size, 7, none⟩ = false := blk_frozen hr0 7
      have f8 : wr.frozen? ⟨w.heap.size, 8, none⟩ = false := blk_frozen hr0 8
      have f9 : wr.frozen? ⟨w.heap.size, 9, none⟩ = false := blk_frozen hr0 9
      clear ha hr0 hr1 hbw e
      go_wp2
      refine bodyPost_ret (results_cell_row rfl _ _ w.heap.size 44 #[.int .i64 a.f0, .int .i64 a.f1, .int .i64 a.f2, .int .i64 a.f3, .int .i64 a.f4.f0, .int .i64 a.f4.f1, .int .i64 a.f4.f2, .int .i64 a.f4.f3, .int .i64 a.f5, .int .i64 a.f6] (0, 0) _ rfl (put44_heap HR0.out (.int .i64 a.f0) (.int .i64 a.f1) (.int .i64 a.f2) (.int .i64 a.f3) (.int .i64 a.f4.f0) (.int .i64 a.f4.f1) (.int .i64 a.f4.f2) (.int .i64 a.f4.f3) (.int .i64 a.f5) (.int .i64 a.f6)) Try.underlying44 rfl (by kernel_rfl)) rfl ?_
      exact ⟨by rw [HE.out], put44_below HBW.out (Nat.le_refl _) (.int .i64 a.f0) (.int .i64 a.f1) (.int .i64 a.f2) (.int .i64 a.f3) (.int .i64 a.f4.f0) (.int .i64 a.f4.f1) (.int .i64 a.f4.f2) (.int .i64 a.f4.f3) (.int .i64 a.f5) (.int .i64 a.f6)⟩
    have d1 : decide ((i : Int) < (vs.length : Int)) = true := decide_eq_true (by omega)
    have hbi : (0 : Int) ≤ (i : Int) ∧ (i : Int) < (vs.length : Int) := by omega
    have hwi : IntKind.i64.wrap ((i : Int) + 1) = (i : Int) + 1 := by rw [IntKind.wrap_i64]; omega
    obtain ⟨ad, had, hx⟩ := Kd.at_int HC.out (i : Int) (by omega) (by omega)
    cases had
    rw [Int.toNat_natCast] at hx
    have hmem : rd vs (i : Int) ∈ vs := by rw [rdI vs i hlt]; exact List.getElem_mem hlt
    have hvr := HV.out _ hmem
    have htk : allA (vs.take (i + 1)) = addP a (rd vs (i : Int)) := by
      rw [List.take_succ_eq_append_getElem hlt, allA_snoc, ← ha, rdI vs i hlt]
    obtain ⟨x, hx2⟩ : ∃ x, rd vs (i : Int) = x := ⟨_, rfl⟩
    rw [hx2] at hx hvr htk
    have haI : aggI a := by rw [ha]; exact allA_aggI _ _ aggI_zero
    have hadd := fun w => addR_calls a x haI hvr.1 hvr.2 w
    obtain ⟨q, hq⟩ : ∃ q, addP a x = q := ⟨_, rfl⟩
    rw [hq] at hadd htk
    have HADD := Lib.hid hadd
    have HTK := Lib.hid htk
    have HX := Lib.hid hx
    have HBD := Lib.hid (blk_drew hr1)
    have HRD := Lib.hid (blk_drew hr0)
    have z0 : wr.cell? ⟨w.heap.size + 1, 0, none⟩ = some (.int .i64 a.f0) := (blk_cell hr1 0).trans rfl
    have z1 : wr.cell? ⟨w.heap.size + 1, 1, none⟩ = some (.int .i64 a.f1) := (blk_cell hr1 1).trans rfl
    have z2 : wr.cell? ⟨w.heap.size + 1, 2, none⟩ = some (.int .i64 a.f2) := (blk_cell hr1 2).trans rfl
    have z3 : wr.cell? ⟨w.heap.size + 1, 3, none⟩ = some (.int .i64 a.f3) := (blk_cell hr1 3).trans rfl
    have z4 : wr.cell? ⟨w.heap.size + 1, 4, none⟩ = some (.int .i64 a.f4.f0) := (blk_cell hr1 4).trans rfl
    have z5 : wr.cell? ⟨w.heap.size + 1, 5, none⟩ = some (.int .i64 a.f4.f1) := (blk_cell hr1 5).trans rfl
    have z6 : wr.cell? ⟨w.heap.size + 1, 6, none⟩ = some (.int .i64 a.f4.f2) := (blk_cell hr1 6).trans rfl
    have z7 : wr.cell? ⟨w.heap.size + 1, 7, none⟩ = some (.int .i64 a.f4.f3) := (blk_cell hr1 7).trans rfl
    have z8 : wr.cell? ⟨w.heap.size + 1, 8, none⟩ = some (.int .i64 a.f5) := (blk_cell hr1 8).trans rfl
    have z9 : wr.cell? ⟨w.heap.size + 1, 9, none⟩ = some (.int .i64 a.f6) := (blk_cell hr1 9).trans rfl
    cases gk with
    | zero => omega
    | succ gk =>
    clear ha hr0 hr1 hbw hx hx2 hmem hvr htk haI hadd hq
    go_wp2
    refine wp_region_held_drew (S := fun w_ => Below w.heap.size w w_) (by kernel_rfl) (below_drew HBW.out) (fun hS_ => ?_)
    have hS : Below w.heap.size w _ := hS_
    clear hS_
    change wpAnyH _ _ _ _ _ 7 #[false, false, false, false, false, false, false] _ _
    refine takeE 1 (some 13) #[false, true, false, false, false, false, false] hS ?_
    refine takeE 2 (some 14) #[false, true, true, false, false, false, false] hS ?_
    refine takeE 3 (some 15) #[false, true, true, true, false, false, false] hS ?_
    refine takeE 4 (some 16) #[false, true, true, true, true, false, false] hS ?_ (hy := fun w_ hS_ => by (replace hS_ : Below w.heap.size w w_ := hS_); have x_ := below_cell hS_ HX.out; go_simp <;> with_reducible rfl)
    refine doD (i := 0) (ls2 := #[true, true, true, true, true, false, false]) (by kernel_rfl) rfl (by kernel_rfl) (by kernel_rfl) (fun K hK => ?_)
    go_simp
    refine hK.out _ _ ?_ (fun hS_ => ?_)
    · show Below w.heap.size w _
      exact hS
    clear hK K hS
    have hS : Below w.heap.size w _ := hS_
    clear hS_
    refine doD (i := 5) (ls2 := #[true, true, true, true, true, true, false]) (by kernel_rfl) rfl (by kernel_rfl) (by kernel_rfl) (fun K hK => ?_)
    go_simp
    go_wp2_with (first | (go_at_call 51; go_loud ((with_reducible refine (HADD.out _).mono ?_); rintro e w5 ⟨rfl, hb5⟩; have hx5 := blk_below HBD.out hb5; have z0 : w5.cell? ⟨w.heap.size + 1, 0, none⟩ = some (.int .i64 a.f0) := (blk_cell hx5 0).trans rfl; have f0 : w5.frozen? ⟨w.heap.size + 1, 0, none⟩ = false := blk_frozen hx5 0; have z1 : w5.cell? ⟨w.heap.size + 1, 1, none⟩ = some (.int .i64 a.f1) := (blk_cell hx5 1).trans rfl; have f1 : w5.frozen? ⟨w.heap.size + 1, 1, none⟩ = false := blk_frozen hx5 1; have z2 : w5.cell? ⟨w.heap.size + 1, 2, none⟩ = some (.int .i64 a.f2) := (blk_cell hx5 2).trans rfl; have f2 : w5.frozen? ⟨w.heap.size + 1, 2, none⟩ = false := blk_frozen hx5 2; have z3 : w5.cell? ⟨w.heap.size + 1, 3, none⟩ = some (.int .i64 a.f3) := (blk_cell hx5 3).trans rfl; have f3 : w5.frozen? ⟨w.heap.size + 1, 3, none⟩ = false := blk_frozen hx5 3; have z4 : w5.cell? ⟨w.heap.size + 1, 4, none⟩ = some (.int .i64 a.f4.f0) := (blk_cell hx5 4).trans rfl; have f4 : w5.frozen? ⟨w.heap.size + 1, 4, none⟩ = false := blk_frozen hx5 4; have z5 : w5.cell? ⟨w.heap.size + 1, 5, none⟩ = some (.int .i64 a.f4.f1) := (blk_cell hx5 5).trans rfl; have f5 : w5.frozen? ⟨w.heap.size + 1, 5, none⟩ = false := blk_frozen hx5 5; have z6 : w5.cell? ⟨w.heap.size + 1, 6, none⟩ = some (.int .i64 a.f4.f2) := (blk_cell hx5 6).trans rfl; have f6 : w5.frozen? ⟨w.heap.size + 1, 6, none⟩ = false := blk_frozen hx5 6; have z7 : w5.cell? ⟨w.heap.size + 1, 7, none⟩ = some (.int .i64 a.f4.f3) := (blk_cell hx5 7).trans rfl; have f7 : w5.frozen? ⟨w.heap.size + 1, 7, none⟩ = false := blk_frozen hx5 7; have z8 : w5.cell? ⟨w.heap.size + 1, 8, none⟩ = some (.int .i64 a.f5) := (blk_cell hx5 8).trans rfl; have f8 : w5.frozen? ⟨w.heap.size + 1, 8, none⟩ = false := blk_frozen hx5 8; have z9 : w5.cell? ⟨w.heap.size + 1, 9, none⟩ = some (.int .i64 a.f6) := (blk_cell hx5 9).trans rfl; have f9 : w5.frozen? ⟨w.heap.size + 1, 9, none⟩ = false := blk_frozen hx5 9; have HX5 := Lib.hid hx5; have HR5 := Lib.hid (blk_below HRD.out hb5); clear hx5)))
    refine hK.out _ _ ?_ (fun hS_ => ?_)
    · show Below w.heap.size w _
      exact hS.trans (hb5.mono hS.size)
    clear hK K hS hb5
    have hS : Below w.heap.size w _ := hS_
    clear hS_
    refine doD (i := 6) (ls2 := #[true, true, true, true, true, true, true]) (by kernel_rfl) rfl (by kernel_rfl) (by kernel_rfl) (fun K hK => ?_)
    go_simp
    refine hK.out _ _ ?_ (fun hS_ => ?_)
    · show Below w.heap.size w _
      exact put44_below hS (by omega) (.int .i64 q.f0) (.int .i64 q.f1) (.int .i64 q.f2) (.int .i64 q.f3) (.int .i64 q.f4.f0) (.int .i64 q.f4.f1) (.int .i64 q.f4.f2) (.int .i64 q.f4.f3) (.int .i64 q.f5) (.int .i64 q.f6)
    clear hK K hS
    have hS : Below w.heap.size w _ := hS_
    clear hS_
    refine wpAnyH_done (by kernel_rfl) ?_ _
    try go_simp
    have HSS := Lib.hid hS
    clear hS
    go_wp2
    go_roundg gk
    case measure => omega
    case rel => exact ⟨i + 1, by first | rfl | (congr 1), by omega, by omega, (put44_other (by omega) (.int .i64 q.f0) (.int .i64 q.f1) (.int .i64 q.f2) (.int .i64 q.f3) (.int .i64 q.f4.f0) (.int .i64 q.f4.f1) (.int .i64 q.f4.f2) (.int .i64 q.f4.f3) (.int .i64 q.f5) (.int .i64 q.f6)).trans HR5.out, ⟨q, HTK.out.symm, put44_heap HX5.out (.int .i64 q.f0) (.int .i64 q.f1) (.int .i64 q.f2) (.int .i64 q.f3) (.int .i64 q.f4.f0) (.int .i64 q.f4.f1) (.int .i64 q.f4.f2) (.int .i64 q.f4.f3) (.int .i64 q.f5) (.int .i64 q.f6)⟩, HSS.out⟩
end Go.Proofs.Ytgipepjpkmlmaaa.P
