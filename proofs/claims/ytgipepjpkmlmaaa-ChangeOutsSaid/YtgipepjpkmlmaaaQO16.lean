import Derived.Test.YtgipepjpkmlmaaaQO1
import Derived.Test.YtgipepjpkmlmaaaQO2
import Derived.Test.YtgipepjpkmlmaaaQO3
import Derived.Test.YtgipepjpkmlmaaaQO4
import Derived.Test.YtgipepjpkmlmaaaQO5
import Derived.Test.YtgipepjpkmlmaaaQO6
import Derived.Test.YtgipepjpkmlmaaaQO7
import Derived.Test.YtgipepjpkmlmaaaQO8
import Derived.Test.YtgipepjpkmlmaaaQO9
import Derived.Test.YtgipepjpkmlmaaaQO10
import Derived.Test.YtgipepjpkmlmaaaQO11
import Derived.Test.YtgipepjpkmlmaaaQO14
namespace Go.Proofs.Ytgipepjpkmlmaaa.P
open Go.RowKit Go.Proofs.YtgipepjpkmlmaaaW.PrintWords Go.Proofs.YtgipepjpkmlmaaaW.PrintLast Go.Proofs.YtgipepjpkmlmaaaW.PrintMore
set_option linter.unusedVariables false
set_option linter.unusedSimpArgs false
/-- What Out answers. -/
def inRng (k t : Int) : Bool := decide (0 ≤ k ∧ k ≤ 1048576 ∧ 0 ≤ t ∧ t ≤ 1099511627776)
def outP (c : S46) : S50 × Int := if aggOk c.f2 = true ∧ inRng c.f0 c.f1 = true then (⟨c.f0, c.f1, encT c.f2⟩, 0) else (⟨0, 0, ⟨#[]⟩⟩, 1)
/-- What In answers. -/
def inP (r : S50) : S46 × Int := if (decP r.f2).2 = 0 ∧ inRng r.f0 r.f1 = true then (⟨r.f0, r.f1, (decP r.f2).1⟩, 0) else (z46, 2)
theorem outP_rng {c : S46} {o : S50} (h : outP c = (o, 0)) : 0 ≤ c.f0 ∧ c.f0 ≤ 1048576 ∧ 0 ≤ c.f1 ∧ c.f1 ≤ 1099511627776 := by
  unfold outP at h
  split at h
  · rename_i c2
    exact of_decide_eq_true c2.2
  · cases h
theorem z44_R : aggR z44 := by
  have h : i64R 0 := ⟨by decide, by decide⟩
  exact ⟨h, h, h, h, h, h, h, h, h, h⟩
theorem dec_R (s : ByteArray) : aggR (decP s).1 := by
  by_cases h : (decP s).2 = 0
  · exact (dec_back s h).2.1
  · have e : (decP s).1 = z44 := by
      unfold decP at h ⊢
      split
      · rename_i c; rw [if_pos c] at h; exact absurd rfl h
      · rfl
    rw [e]
    exact z44_R
theorem dec_e (s : ByteArray) : (decP s).2 = 0 ∨ (decP s).2 = 2 := by
  unfold decP
  split
  · exact .inl rfl
  · exact .inr rfl
/-- A window laid into its box. -/
def put46 (w : World) (g : Nat) (a0 a1 a2 a3 a4 a5 a6 a7 a8 a9 a10 a11 : Value) : World := (((((((((((w.setCell ⟨g, 0, none⟩ a0).setCell ⟨g, 1, none⟩ a1).setCell ⟨g, 2, none⟩ a2).setCell ⟨g, 3, none⟩ a3).setCell ⟨g, 4, none⟩ a4).setCell ⟨g, 5, none⟩ a5).setCell ⟨g, 6, none⟩ a6).setCell ⟨g, 7, none⟩ a7).setCell ⟨g, 8, none⟩ a8).setCell ⟨g, 9, none⟩ a9).setCell ⟨g, 10, none⟩ a10).setCell ⟨g, 11, none⟩ a11
theorem put46_heap {w : World} {g : Nat} {t : TypeId} {b0 b1 b2 b3 b4 b5 b6 b7 b8 b9 b10 b11 : Value} (h : w.heap[g]? = some (.cells #[b0, b1, b2, b3, b4, b5, b6, b7, b8, b9, b10, b11] t (0, 0))) (a0 a1 a2 a3 a4 a5 a6 a7 a8 a9 a10 a11 : Value) : (put46 w g a0 a1 a2 a3 a4 a5 a6 a7 a8 a9 a10 a11).heap[g]? = some (.cells #[a0, a1, a2, a3, a4, a5, a6, a7, a8, a9, a10, a11] t (0, 0)) := by
  unfold put46
  have h0 := (blk_put (cs' := #[a0, b1, b2, b3, b4, b5, b6, b7, b8, b9, b10, b11]) h 0 a0 rfl)
  have h1 := (blk_put (cs' := #[a0, a1, b2, b3, b4, b5, b6, b7, b8, b9, b10, b11]) h0 1 a1 rfl)
  have h2 := (blk_put (cs' := #[a0, a1, a2, b3, b4, b5, b6, b7, b8, b9, b10, b11]) h1 2 a2 rfl)
  have h3 := (blk_put (cs' := #[a0, a1, a2, a3, b4, b5, b6, b7, b8, b9, b10, b11]) h2 3 a3 rfl)
  have h4 := (blk_put (cs' := #[a0, a1, a2, a3, a4, b5, b6, b7, b8, b9, b10, b11]) h3 4 a4 rfl)
  have h5 := (blk_put (cs' := #[a0, a1, a2, a3, a4, a5, b6, b7, b8, b9, b10, b11]) h4 5 a5 rfl)
  have h6 := (blk_put (cs' := #[a0, a1, a2, a3, a4, a5, a6, b7, b8, b9, b10, b11]) h5 6 a6 rfl)
  have h7 := (blk_put (cs' := #[a0, a1, a2, a3, a4, a5, a6, a7, b8, b9, b10, b11]) h6 7 a7 rfl)
  have h8 := (blk_put (cs' := #[a0, a1, a2, a3, a4, a5, a6, a7, a8, b9, b10, b11]) h7 8 a8 rfl)
  have h9 := (blk_put (cs' := #[a0, a1, a2, a3, a4, a5, a6, a7, a8, a9, b10, b11]) h8 9 a9 rfl)
  have h10 := (blk_put (cs' := #[a0, a1, a2, a3, a4, a5, a6, a7, a8, a9, a10, b11]) h9 10 a10 rfl)
  have h11 := (blk_put (cs' := #[a0, a1, a2, a3, a4, a5, a6, a7, a8, a9, a10, a11]) h10 11 a11 rfl)
  exact h11
theorem put46_below {B g : Nat} {w0 w : World} (h : Below B w0 w) (hg : B ≤ g) (a0 a1 a2 a3 a4 a5 a6 a7 a8 a9 a10 a11 : Value) : Below B w0 (put46 w g a0 a1 a2 a3 a4 a5 a6 a7 a8 a9 a10 a11) := by
  unfold put46
  exact (((((((((((h.setCell hg _).setCell hg _).setCell hg _).setCell hg _).setCell hg _).setCell hg _).setCell hg _).setCell hg _).setCell hg _).setCell hg _).setCell hg _).setCell hg _
set_option maxHeartbeats 8000000 in
set_option maxRecDepth 100000 in
theorem out_calls (c : S46) (hc : aggR c.f2) (w : World) :
    Calls Try.prog 38 #[cellV c] w fun e w' => e = .returned (.tuple #[.agg #[.int .i64 (outP c).1.f0, .int .i64 (outP c).1.f1, .string (outP c).1.f2], .int .i64 (outP c).2]) ∧ Below w.heap.size w w' := by
  have henc := fun w => encode_calls c.f2 hc w
  have hu := Try.underlying44
  obtain ⟨U, hU⟩ : ∃ U, encT c.f2 = U := ⟨_, rfl⟩
  obtain ⟨q, hq⟩ : ∃ q, aggOk c.f2 = q := ⟨_, rfl⟩
  rw [hU, hq] at henc
  obtain ⟨W2, hW2⟩ : ∃ W, W = (w.alloc (.cells #[.int .i64 c.f0, .int .i64 c.f1, .int .i64 c.f2.f0, .int .i64 c.f2.f1, .int .i64 c.f2.f2, .int .i64 c.f2.f3, .int .i64 c.f2.f4.f0, .int .i64 c.f2.f4.f1, .int .i64 c.f2.f4.f2, .int .i64 c.f2.f4.f3, .int .i64 c.f2.f5, .int .i64 c.f2.f6] 46)).alloc (.cells #[.int .i64 0, .int .i64 0, .string ⟨#[]⟩] 50) := ⟨_, rfl⟩
  have h0 : W2.heap[w.heap.size]? = some (.cells #[.int .i64 c.f0, .int .i64 c.f1, .int .i64 c.f2.f0, .int .i64 c.f2.f1, .int .i64 c.f2.f2, .int .i64 c.f2.f3, .int .i64 c.f2.f4.f0, .int .i64 c.f2.f4.f1, .int .i64 c.f2.f4.f2, .int .i64 c.f2.f4.f3, .int .i64 c.f2.f5, .int .i64 c.f2.f6] 46 (0, 0)) := by
    rw [hW2, Below.heap_alloc _ _ _ (by simp)]
    exact heap_alloc_new _ _
  have h1 : W2.heap[w.heap.size + 1]? = some (.cells #[.int .i64 0, .int .i64 0, .string ⟨#[]⟩] 50 (0, 0)) := by
    rw [hW2]
    have := heap_alloc_new (w.alloc (.cells #[.int .i64 c.f0, .int .i64 c.f1, .int .i64 c.f2.f0, .int .i64 c.f2.f1, .int .i64 c.f2.f2, .int .i64 c.f2.f3, .int .i64 c.f2.f4.f0, .int .i64 c.f2.f4.f1, .int .i64 c.f2.f4.f2, .int .i64 c.f2.f4.f3, .int .i64 c.f2.f5, .int .i64 c.f2.f6] 46)) (.cells #[.int .i64 0, .int .i64 0, .string ⟨#[]⟩] 50)
    simpa using this
  have hb : Below w.heap.size w W2 := by rw [hW2]; exact below_alloc (below_alloc (Below.refl _ _) _) _
  have HB := Lib.hid hb
  have HW2 := Lib.hid hW2
  have H0 := Lib.hid h0
  have H1 := Lib.hid h1
  have HQ := Lib.hid hq
  have HU := Lib.hid hU
  have HENC := Lib.hid henc
  clear hW2 h0 h1 hb hU hc hq henc
  cases q with
  | false =>
    have HENC2 := HENC
    have hae : argE false = 1 := rfl
    go_enter Try.func38, Try.ntmps38
    go_upto_region 1 with fail
    rw [← HW2.out]
    have z0 : W2.cell? ⟨w.heap.size, 0, none⟩ = some (.int .i64 c.f0) := (blk_cell H0.out 0).trans rfl
    have z1 : W2.cell? ⟨w.heap.size, 1, none⟩ = some (.int .i64 c.f1) := (blk_cell H0.out 1).trans rfl
    have z2 : W2.cell? ⟨w.heap.size, 2, none⟩ = some (.int .i64 c.f2.f0) := (blk_cell H0.out 2).trans rfl
    have z3 : W2.cell? ⟨w.heap.size, 3, none⟩ = some (.int .i64 c.f2.f1) := (blk_cell H0.out 3).trans rfl
    have z4 : W2.cell? ⟨w.heap.size, 4, none⟩ = some (.int .i64 c.f2.f2) := (blk_cell H0.out 4).trans rfl
    have z5 : W2.cell? ⟨w.heap.size, 5, none⟩ = some (.int .i64 c.f2.f3) := (blk_cell H0.out 5).trans rfl
    have z6 : W2.cell? ⟨w.heap.size, 6, none⟩ = some (.int .i64 c.f2.f4.f0) := (blk_cell H0.out 6).trans rfl
    have z7 : W2.cell? ⟨w.heap.size, 7, none⟩ = some (.int .i64 c.f2.f4.f1) := (blk_cell H0.out 7).trans rfl
    have z8 : W2.cell? ⟨w.heap.size, 8, none⟩ = some (.int .i64 c.f2.f4.f2) := (blk_cell H0.out 8).trans rfl
    have z9 : W2.cell? ⟨w.heap.size, 9, none⟩ = some (.int .i64 c.f2.f4.f3) := (blk_cell H0.out 9).trans rfl
    have z10 : W2.cell? ⟨w.heap.size, 10, none⟩ = some (.int .i64 c.f2.f5) := (blk_cell H0.out 10).trans rfl
    have z11 : W2.cell? ⟨w.heap.size, 11, none⟩ = some (.int .i64 c.f2.f6) := (blk_cell H0.out 11).trans rfl
    go_wp2_with (first | (go_at_call 73; go_loud ((with_reducible refine (HENC2.out _).mono ?_); rintro e w3 ⟨rfl, hb3⟩; rw [hae]; have hq0 := blk_below H0.out hb3; have hq1 := blk_below H1.out hb3; have z0 : w3.cell? ⟨w.heap.size, 0, none⟩ = some (.int .i64 c.f0) := (blk_cell hq0 0).trans rfl; have z1 : w3.cell? ⟨w.heap.size, 1, none⟩ = some (.int .i64 c.f1) := (blk_cell hq0 1).trans rfl; have z2 : w3.cell? ⟨w.heap.size, 2, none⟩ = some (.int .i64 c.f2.f0) := (blk_cell hq0 2).trans rfl; have z3 : w3.cell? ⟨w.heap.size, 3, none⟩ = some (.int .i64 c.f2.f1) := (blk_cell hq0 3).trans rfl; have z4 : w3.cell? ⟨w.heap.size, 4, none⟩ = some (.int .i64 c.f2.f2) := (blk_cell hq0 4).trans rfl; have z5 : w3.cell? ⟨w.heap.size, 5, none⟩ = some (.int .i64 c.f2.f3) := (blk_cell hq0 5).trans rfl; have z6 : w3.cell? ⟨w.heap.size, 6, none⟩ = some (.int .i64 c.f2.f4.f0) := (blk_cell hq0 6).trans rfl; have z7 : w3.cell? ⟨w.heap.size, 7, none⟩ = some (.int .i64 c.f2.f4.f1) := (blk_cell hq0 7).trans rfl; have z8 : w3.cell? ⟨w.heap.size, 8, none⟩ = some (.int .i64 c.f2.f4.f2) := (blk_cell hq0 8).trans rfl; have z9 : w3.cell? ⟨w.heap.size, 9, none⟩ = some (.int .i64 c.f2.f4.f3) := (blk_cell hq0 9).trans rfl; have z10 : w3.cell? ⟨w.heap.size, 10, none⟩ = some (.int .i64 c.f2.f5) := (blk_cell hq0 10).trans rfl; have z11 : w3.cell? ⟨w.heap.size, 11, none⟩ = some (.int .i64 c.f2.f6) := (blk_cell hq0 11).trans rfl; have y0 : w3.cell? ⟨w.heap.size + 1, 0, none⟩ = some (.int .i64 0) := (blk_cell hq1 0).trans rfl; have yf0 := blk_frozen hq1 0; have y1 : w3.cell? ⟨w.heap.size + 1, 1, none⟩ = some (.int .i64 0) := (blk_cell hq1 1).trans rfl; have yf1 := blk_frozen hq1 1; have y2 : w3.cell? ⟨w.heap.size + 1, 2, none⟩ = some (.string ⟨#[]⟩) := (blk_cell hq1 2).trans rfl; have yf2 := blk_frozen hq1 2; have HQ1 := Lib.hid hq1; have HB3 := Lib.hid (HB.out.trans (hb3.mono HB.out.size)); clear hq0 hq1 hb3)))
    refine bodyPost_ret (results_ct' rfl _ _ (w.heap.size + 1) 50 #[.int .i64 0, .int .i64 0, .string ⟨#[]⟩] (0, 0) _ rfl (put3_heap HQ1.out (.int .i64 0) (.int .i64 0) (.string ⟨#[]⟩)) Try.underlying50 rfl (by kernel_rfl)) rfl ?_
    have ho : outP c = (⟨0, 0, ⟨#[]⟩⟩, 1) := if_neg (fun h => by rw [HQ.out] at h; exact Bool.noConfusion h.1)
    rw [ho]
    exact ⟨rfl, put3_below HB3.out (Nat.le_succ _) (.int .i64 0) (.int .i64 0) (.string ⟨#[]⟩)⟩
  | true =>
    have HENC2 := HENC
    have hae : argE true = 0 := rfl
    by_cases k0 : c.f0 < 0
    · have d0 : decide (c.f0 < 0) = true := decide_eq_true k0
      go_enter Try.func38, Try.ntmps38
      go_upto_region 1 with fail
      rw [← HW2.out]
      have z0 : W2.cell? ⟨w.heap.size, 0, none⟩ = some (.int .i64 c.f0) := (blk_cell H0.out 0).trans rfl
      have z1 : W2.cell? ⟨w.heap.size, 1, none⟩ = some (.int .i64 c.f1) := (blk_cell H0.out 1).trans rfl
      have z2 : W2.cell? ⟨w.heap.size, 2, none⟩ = some (.int .i64 c.f2.f0) := (blk_cell H0.out 2).trans rfl
      have z3 : W2.cell? ⟨w.heap.size, 3, none⟩ = some (.int .i64 c.f2.f1) := (blk_cell H0.out 3).trans rfl
      have z4 : W2.cell? ⟨w.heap.size, 4, none⟩ = some (.int .i64 c.f2.f2) := (blk_cell H0.out 4).trans rfl
      have z5 : W2.cell? ⟨w.heap.size, 5, none⟩ = some (.int .i64 c.f2.f3) := (blk_cell H0.out 5).trans rfl
      have z6 : W2.cell? ⟨w.heap.size, 6, none⟩ = some (.int .i64 c.f2.f4.f0) := (blk_cell H0.out 6).trans rfl
      have z7 : W2.cell? ⟨w.heap.size, 7, none⟩ = some (.int .i64 c.f2.f4.f1) := (blk_cell H0.out 7).trans rfl
      have z8 : W2.cell? ⟨w.heap.size, 8, none⟩ = some (.int .i64 c.f2.f4.f2) := (blk_cell H0.out 8).trans rfl
      have z9 : W2.cell? ⟨w.heap.size, 9, none⟩ = some (.int .i64 c.f2.f4.f3) := (blk_cell H0.out 9).trans rfl
      have z10 : W2.cell? ⟨w.heap.size, 10, none⟩ = some (.int .i64 c.f2.f5) := (blk_cell H0.out 10).trans rfl
      have z11 : W2.cell? ⟨w.heap.size, 11, none⟩ = some (.int .i64 c.f2.f6) := (blk_cell H0.out 11).trans rfl
      go_wp2_with (first | (go_at_call 73; go_loud ((with_reducible refine (HENC2.out _).mono ?_); rintro e w3 ⟨rfl, hb3⟩; rw [hae]; have hq0 := blk_below H0.out hb3; have hq1 := blk_below H1.out hb3; have z0 : w3.cell? ⟨w.heap.size, 0, none⟩ = some (.int .i64 c.f0) := (blk_cell hq0 0).trans rfl; have z1 : w3.cell? ⟨w.heap.size, 1, none⟩ = some (.int .i64 c.f1) := (blk_cell hq0 1).trans rfl; have z2 : w3.cell? ⟨w.heap.size, 2, none⟩ = some (.int .i64 c.f2.f0) := (blk_cell hq0 2).trans rfl; have z3 : w3.cell? ⟨w.heap.size, 3, none⟩ = some (.int .i64 c.f2.f1) := (blk_cell hq0 3).trans rfl; have z4 : w3.cell? ⟨w.heap.size, 4, none⟩ = some (.int .i64 c.f2.f2) := (blk_cell hq0 4).trans rfl; have z5 : w3.cell? ⟨w.heap.size, 5, none⟩ = some (.int .i64 c.f2.f3) := (blk_cell hq0 5).trans rfl; have z6 : w3.cell? ⟨w.heap.size, 6, none⟩ = some (.int .i64 c.f2.f4.f0) := (blk_cell hq0 6).trans rfl; have z7 : w3.cell? ⟨w.heap.size, 7, none⟩ = some (.int .i64 c.f2.f4.f1) := (blk_cell hq0 7).trans rfl; have z8 : w3.cell? ⟨w.heap.size, 8, none⟩ = some (.int .i64 c.f2.f4.f2) := (blk_cell hq0 8).trans rfl; have z9 : w3.cell? ⟨w.heap.size, 9, none⟩ = some (.int .i64 c.f2.f4.f3) := (blk_cell hq0 9).trans rfl; have z10 : w3.cell? ⟨w.heap.size, 10, none⟩ = some (.int .i64 c.f2.f5) := (blk_cell hq0 10).trans rfl; have z11 : w3.cell? ⟨w.heap.size, 11, none⟩ = some (.int .i64 c.f2.f6) := (blk_cell hq0 11).trans rfl; have y0 : w3.cell? ⟨w.heap.size + 1, 0, none⟩ = some (.int .i64 0) := (blk_cell hq1 0).trans rfl; have yf0 := blk_frozen hq1 0; have y1 : w3.cell? ⟨w.heap.size + 1, 1, none⟩ = some (.int .i64 0) := (blk_cell hq1 1).trans rfl; have yf1 := blk_frozen hq1 1; have y2 : w3.cell? ⟨w.heap.size + 1, 2, none⟩ = some (.string ⟨#[]⟩) := (blk_cell hq1 2).trans rfl; have yf2 := blk_frozen hq1 2; have HQ1 := Lib.hid hq1; have HB3 := Lib.hid (HB.out.trans (hb3.mono HB.out.size)); clear hq0 hq1 hb3)))
      refine bodyPost_ret (results_ct' rfl _ _ (w.heap.size + 1) 50 #[.int .i64 0, .int .i64 0, .string ⟨#[]⟩] (0, 0) _ rfl (put3_heap HQ1.out (.int .i64 0) (.int .i64 0) (.string ⟨#[]⟩)) Try.underlying50 rfl (by kernel_rfl)) rfl ?_
      have ho : outP c = (⟨0, 0, ⟨#[]⟩⟩, 1) := if_neg (fun h => by have h2 := of_decide_eq_true h.2; omega)
      rw [ho]
      exact ⟨rfl, put3_below HB3.out (Nat.le_succ _) (.int .i64 0) (.int .i64 0) (.string ⟨#[]⟩)⟩
    have d0 : decide (c.f0 < 0) = false := decide_eq_false k0
    by_cases k1 : 1048576 < c.f0
    · have d1 : decide (1048576 < c.f0) = true := decide_eq_true k1
      go_enter Try.func38, Try.ntmps38
      go_upto_region 1 with fail
      rw [← HW2.out]
      have z0 : W2.cell? ⟨w.heap.size, 0, none⟩ = some (.int .i64 c.f0) := (blk_cell H0.out 0).trans rfl
      have z1 : W2.cell? ⟨w.heap.size, 1, none⟩ = some (.int .i64 c.f1) := (blk_cell H0.out 1).trans rfl
      have z2 : W2.cell? ⟨w.heap.size, 2, none⟩ = some (.int .i64 c.f2.f0) := (blk_cell H0.out 2).trans rfl
      have z3 : W2.cell? ⟨w.heap.size, 3, none⟩ = some (.int .i64 c.f2.f1) := (blk_cell H0.out 3).trans rfl
      have z4 : W2.cell? ⟨w.heap.size, 4, none⟩ = some (.int .i64 c.f2.f2) := (blk_cell H0.out 4).trans rfl
      have z5 : W2.cell? ⟨w.heap.size, 5, none⟩ = some (.int .i64 c.f2.f3) := (blk_cell H0.out 5).trans rfl
      have z6 : W2.cell? ⟨w.heap.size, 6, none⟩ = some (.int .i64 c.f2.f4.f0) := (blk_cell H0.out 6).trans rfl
      have z7 : W2.cell? ⟨w.heap.size, 7, none⟩ = some (.int .i64 c.f2.f4.f1) := (blk_cell H0.out 7).trans rfl
      have z8 : W2.cell? ⟨w.heap.size, 8, none⟩ = some (.int .i64 c.f2.f4.f2) := (blk_cell H0.out 8).trans rfl
      have z9 : W2.cell? ⟨w.heap.size, 9, none⟩ = some (.int .i64 c.f2.f4.f3) := (blk_cell H0.out 9).trans rfl
      have z10 : W2.cell? ⟨w.heap.size, 10, none⟩ = some (.int .i64 c.f2.f5) := (blk_cell H0.out 10).trans rfl
      have z11 : W2.cell? ⟨w.heap.size, 11, none⟩ = some (.int .i64 c.f2.f6) := (blk_cell H0.out 11).trans rfl
      go_wp2_with (first | (go_at_call 73; go_loud ((with_reducible refine (HENC2.out _).mono ?_); rintro e w3 ⟨rfl, hb3⟩; rw [hae]; have hq0 := blk_below H0.out hb3; have hq1 := blk_below H1.out hb3; have z0 : w3.cell? ⟨w.heap.size, 0, none⟩ = some (.int .i64 c.f0) := (blk_cell hq0 0).trans rfl; have z1 : w3.cell? ⟨w.heap.size, 1, none⟩ = some (.int .i64 c.f1) := (blk_cell hq0 1).trans rfl; have z2 : w3.cell? ⟨w.heap.size, 2, none⟩ = some (.int .i64 c.f2.f0) := (blk_cell hq0 2).trans rfl; have z3 : w3.cell? ⟨w.heap.size, 3, none⟩ = some (.int .i64 c.f2.f1) := (blk_cell hq0 3).trans rfl; have z4 : w3.cell? ⟨w.heap.size, 4, none⟩ = some (.int .i64 c.f2.f2) := (blk_cell hq0 4).trans rfl; have z5 : w3.cell? ⟨w.heap.size, 5, none⟩ = some (.int .i64 c.f2.f3) := (blk_cell hq0 5).trans rfl; have z6 : w3.cell? ⟨w.heap.size, 6, none⟩ = some (.int .i64 c.f2.f4.f0) := (blk_cell hq0 6).trans rfl; have z7 : w3.cell? ⟨w.heap.size, 7, none⟩ = some (.int .i64 c.f2.f4.f1) := (blk_cell hq0 7).trans rfl; have z8 : w3.cell? ⟨w.heap.size, 8, none⟩ = some (.int .i64 c.f2.f4.f2) := (blk_cell hq0 8).trans rfl; have z9 : w3.cell? ⟨w.heap.size, 9, none⟩ = some (.int .i64 c.f2.f4.f3) := (blk_cell hq0 9).trans rfl; have z10 : w3.cell? ⟨w.heap.size, 10, none⟩ = some (.int .i64 c.f2.f5) := (blk_cell hq0 10).trans rfl; have z11 : w3.cell? ⟨w.heap.size, 11, none⟩ = some (.int .i64 c.f2.f6) := (blk_cell hq0 11).trans rfl; have y0 : w3.cell? ⟨w.heap.size + 1, 0, none⟩ = some (.int .i64 0) := (blk_cell hq1 0).trans rfl; have yf0 := blk_frozen hq1 0; have y1 : w3.cell? ⟨w.heap.size + 1, 1, none⟩ = some (.int .i64 0) := (blk_cell hq1 1).trans rfl; have yf1 := blk_frozen hq1 1; have y2 : w3.cell? ⟨w.heap.size + 1, 2, none⟩ = some (.string ⟨#[]⟩) := (blk_cell hq1 2).trans rfl; have yf2 := blk_frozen hq1 2; have HQ1 := Lib.hid hq1; have HB3 := Lib.hid (HB.out.trans (hb3.mono HB.out.size)); clear hq0 hq1 hb3)))
      refine bodyPost_ret (results_ct' rfl _ _ (w.heap.size + 1) 50 #[.int .i64 0, .int .i64 0, .string ⟨#[]⟩] (0, 0) _ rfl (put3_heap HQ1.out (.int .i64 0) (.int .i64 0) (.string ⟨#[]⟩)) Try.underlying50 rfl (by kernel_rfl)) rfl ?_
      have ho : outP c = (⟨0, 0, ⟨#[]⟩⟩, 1) := if_neg (fun h => by have h2 := of_decide_eq_true h.2; omega)
      rw [ho]
      exact ⟨rfl, put3_below HB3.out (Nat.le_succ _) (.int .i64 0) (.int .i64 0) (.string ⟨#[]⟩)⟩
    have d1 : decide (1048576 < c.f0) = false := decide_eq_false k1
    by_cases k2 : c.f1 < 0
    · have d2 : decide (c.f1 < 0) = true := decide_eq_true k2
      go_enter Try.func38, Try.ntmps38
      go_upto_region 1 with fail
      rw [← HW2.out]
      have z0 : W2.cell? ⟨w.heap.size, 0, none⟩ = some (.int .i64 c.f0) := (blk_cell H0.out 0).trans rfl
      have z1 : W2.cell? ⟨w.heap.size, 1, none⟩ = some (.int .i64 c.f1) := (blk_cell H0.out 1).trans rfl
      have z2 : W2.cell? ⟨w.heap.size, 2, none⟩ = some (.int .i64 c.f2.f0) := (blk_cell H0.out 2).trans rfl
      have z3 : W2.cell? ⟨w.heap.size, 3, none⟩ = some (.int .i64 c.f2.f1) := (blk_cell H0.out 3).trans rfl
      have z4 : W2.cell? ⟨w.heap.size, 4, none⟩ = some (.int .i64 c.f2.f2) := (blk_cell H0.out 4).trans rfl
      have z5 : W2.cell? ⟨w.heap.size, 5, none⟩ = some (.int .i64 c.f2.f3) := (blk_cell H0.out 5).trans rfl
      have z6 : W2.cell? ⟨w.heap.size, 6, none⟩ = some (.int .i64 c.f2.f4.f0) := (blk_cell H0.out 6).trans rfl
      have z7 : W2.cell? ⟨w.heap.size, 7, none⟩ = some (.int .i64 c.f2.f4.f1) := (blk_cell H0.out 7).trans rfl
      have z8 : W2.cell? ⟨w.heap.size, 8, none⟩ = some (.int .i64 c.f2.f4.f2) := (blk_cell H0.out 8).trans rfl
      have z9 : W2.cell? ⟨w.heap.size, 9, none⟩ = some (.int .i64 c.f2.f4.f3) := (blk_cell H0.out 9).trans rfl
      have z10 : W2.cell? ⟨w.heap.size, 10, none⟩ = some (.int .i64 c.f2.f5) := (blk_cell H0.out 10).trans rfl
      have z11 : W2.cell? ⟨w.heap.size, 11, none⟩ = some (.int .i64 c.f2.f6) := (blk_cell H0.out 11).trans rfl
      go_wp2_with (first | (go_at_call 73; go_loud ((with_reducible refine (HENC2.out _).mono ?_); rintro e w3 ⟨rfl, hb3⟩; rw [hae]; have hq0 := blk_below H0.out hb3; have hq1 := blk_below H1.out hb3; have z0 : w3.cell? ⟨w.heap.size, 0, none⟩ = some (.int .i64 c.f0) := (blk_cell hq0 0).trans rfl; have z1 : w3.cell? ⟨w.heap.size, 1, none⟩ = some (.int .i64 c.f1) := (blk_cell hq0 1).trans rfl; have z2 : w3.cell? ⟨w.heap.size, 2, none⟩ = some (.int .i64 c.f2.f0) := (blk_cell hq0 2).trans rfl; have z3 : w3.cell? ⟨w.heap.size, 3, none⟩ = some (.int .i64 c.f2.f1) := (blk_cell hq0 3).trans rfl; have z4 : w3.cell? ⟨w.heap.size, 4, none⟩ = some (.int .i64 c.f2.f2) := (blk_cell hq0 4).trans rfl; have z5 : w3.cell? ⟨w.heap.size, 5, none⟩ = some (.int .i64 c.f2.f3) := (blk_cell hq0 5).trans rfl; have z6 : w3.cell? ⟨w.heap.size, 6, none⟩ = some (.int .i64 c.f2.f4.f0) := (blk_cell hq0 6).trans rfl; have z7 : w3.cell? ⟨w.heap.size, 7, none⟩ = some (.int .i64 c.f2.f4.f1) := (blk_cell hq0 7).trans rfl; have z8 : w3.cell? ⟨w.heap.size, 8, none⟩ = some (.int .i64 c.f2.f4.f2) := (blk_cell hq0 8).trans rfl; have z9 : w3.cell? ⟨w.heap.size, 9, none⟩ = some (.int .i64 c.f2.f4.f3) := (blk_cell hq0 9).trans rfl; have z10 : w3.cell? ⟨w.heap.size, 10, none⟩ = some (.int .i64 c.f2.f5) := (blk_cell hq0 10).trans rfl; have z11 : w3.cell? ⟨w.heap.size, 11, none⟩ = some (.int .i64 c.f2.f6) := (blk_cell hq0 11).trans rfl; have y0 : w3.cell? ⟨w.heap.size + 1, 0, none⟩ = some (.int .i64 0) := (blk_cell hq1 0).trans rfl; have yf0 := blk_frozen hq1 0; have y1 : w3.cell? ⟨w.heap.size + 1, 1, none⟩ = some (.int .i64 0) := (blk_cell hq1 1).trans rfl; have yf1 := blk_frozen hq1 1; have y2 : w3.cell? ⟨w.heap.size + 1, 2, none⟩ = some (.string ⟨#[]⟩) := (blk_cell hq1 2).trans rfl; have yf2 := blk_frozen hq1 2; have HQ1 := Lib.hid hq1; have HB3 := Lib.hid (HB.out.trans (hb3.mono HB.out.size)); clear hq0 hq1 hb3)))
      refine bodyPost_ret (results_ct' rfl _ _ (w.heap.size + 1) 50 #[.int .i64 0, .int .i64 0, .string ⟨#[]⟩] (0, 0) _ rfl (put3_heap HQ1.out (.int .i64 0) (.int .i64 0) (.string ⟨#[]⟩)) Try.underlying50 rfl (by kernel_rfl)) rfl ?_
      have ho : outP c = (⟨0, 0, ⟨#[]⟩⟩, 1) := if_neg (fun h => by have h2 := of_decide_eq_true h.2; omega)
      rw [ho]
      exact ⟨rfl, put3_below HB3.out (Nat.le_succ _) (.int .i64 0) (.int .i64 0) (.string ⟨#[]⟩)⟩
    have d2 : decide (c.f1 < 0) = false := decide_eq_false k2
    by_cases k3 : 1099511627776 < c.f1
    · have d3 : decide (1099511627776 < c.f1) = true := decide_eq_true k3
      go_enter Try.func38, Try.ntmps38
      go_upto_region 1 with fail
      rw [← HW2.out]
      have z0 : W2.cell? ⟨w.heap.size, 0, none⟩ = some (.int .i64 c.f0) := (blk_cell H0.out 0).trans rfl
      have z1 : W2.cell? ⟨w.heap.size, 1, none⟩ = some (.int .i64 c.f1) := (blk_cell H0.out 1).trans rfl
      have z2 : W2.cell? ⟨w.heap.size, 2, none⟩ = some (.int .i64 c.f2.f0) := (blk_cell H0.out 2).trans rfl
      have z3 : W2.cell? ⟨w.heap.size, 3, none⟩ = some (.int .i64 c.f2.f1) := (blk_cell H0.out 3).trans rfl
      have z4 : W2.cell? ⟨w.heap.size, 4, none⟩ = some (.int .i64 c.f2.f2) := (blk_cell H0.out 4).trans rfl
      have z5 : W2.cell? ⟨w.heap.size, 5, none⟩ = some (.int .i64 c.f2.f3) := (blk_cell H0.out 5).trans rfl
      have z6 : W2.cell? ⟨w.heap.size, 6, none⟩ = some (.int .i64 c.f2.f4.f0) := (blk_cell H0.out 6).trans rfl
      have z7 : W2.cell? ⟨w.heap.size, 7, none⟩ = some (.int .i64 c.f2.f4.f1) := (blk_cell H0.out 7).trans rfl
      have z8 : W2.cell? ⟨w.heap.size, 8, none⟩ = some (.int .i64 c.f2.f4.f2) := (blk_cell H0.out 8).trans rfl
      have z9 : W2.cell? ⟨w.heap.size, 9, none⟩ = some (.int .i64 c.f2.f4.f3) := (blk_cell H0.out 9).trans rfl
      have z10 : W2.cell? ⟨w.heap.size, 10, none⟩ = some (.int .i64 c.f2.f5) := (blk_cell H0.out 10).trans rfl
      have z11 : W2.cell? ⟨w.heap.size, 11, none⟩ = some (.int .i64 c.f2.f6) := (blk_cell H0.out 11).trans rfl
      go_wp2_with (first | (go_at_call 73; go_loud ((with_reducible refine (HENC2.out _).mono ?_); rintro e w3 ⟨rfl, hb3⟩; rw [hae]; have hq0 := blk_below H0.out hb3; have hq1 := blk_below H1.out hb3; have z0 : w3.cell? ⟨w.heap.size, 0, none⟩ = some (.int .i64 c.f0) := (blk_cell hq0 0).trans rfl; have z1 : w3.cell? ⟨w.heap.size, 1, none⟩ = some (.int .i64 c.f1) := (blk_cell hq0 1).trans rfl; have z2 : w3.cell? ⟨w.heap.size, 2, none⟩ = some (.int .i64 c.f2.f0) := (blk_cell hq0 2).trans rfl; have z3 : w3.cell? ⟨w.heap.size, 3, none⟩ = some (.int .i64 c.f2.f1) := (blk_cell hq0 3).trans rfl; have z4 : w3.cell? ⟨w.heap.size, 4, none⟩ = some (.int .i64 c.f2.f2) := (blk_cell hq0 4).trans rfl; have z5 : w3.cell? ⟨w.heap.size, 5, none⟩ = some (.int .i64 c.f2.f3) := (blk_cell hq0 5).trans rfl; have z6 : w3.cell? ⟨w.heap.size, 6, none⟩ = some (.int .i64 c.f2.f4.f0) := (blk_cell hq0 6).trans rfl; have z7 : w3.cell? ⟨w.heap.size, 7, none⟩ = some (.int .i64 c.f2.f4.f1) := (blk_cell hq0 7).trans rfl; have z8 : w3.cell? ⟨w.heap.size, 8, none⟩ = some (.int .i64 c.f2.f4.f2) := (blk_cell hq0 8).trans rfl; have z9 : w3.cell? ⟨w.heap.size, 9, none⟩ = some (.int .i64 c.f2.f4.f3) := (blk_cell hq0 9).trans rfl; have z10 : w3.cell? ⟨w.heap.size, 10, none⟩ = some (.int .i64 c.f2.f5) := (blk_cell hq0 10).trans rfl; have z11 : w3.cell? ⟨w.heap.size, 11, none⟩ = some (.int .i64 c.f2.f6) := (blk_cell hq0 11).trans rfl; have y0 : w3.cell? ⟨w.heap.size + 1, 0, none⟩ = some (.int .i64 0) := (blk_cell hq1 0).trans rfl; have yf0 := blk_frozen hq1 0; have y1 : w3.cell? ⟨w.heap.size + 1, 1, none⟩ = some (.int .i64 0) := (blk_cell hq1 1).trans rfl; have yf1 := blk_frozen hq1 1; have y2 : w3.cell? ⟨w.heap.size + 1, 2, none⟩ = some (.string ⟨#[]⟩) := (blk_cell hq1 2).trans rfl; have yf2 := blk_frozen hq1 2; have HQ1 := Lib.hid hq1; have HB3 := Lib.hid (HB.out.trans (hb3.mono HB.out.size)); clear hq0 hq1 hb3)))
      refine bodyPost_ret (results_ct' rfl _ _ (w.heap.size + 1) 50 #[.int .i64 0, .int .i64 0, .string ⟨#[]⟩] (0, 0) _ rfl (put3_heap HQ1.out (.int .i64 0) (.int .i64 0) (.string ⟨#[]⟩)) Try.underlying50 rfl (by kernel_rfl)) rfl ?_
      have ho : outP c = (⟨0, 0, ⟨#[]⟩⟩, 1) := if_neg (fun h => by have h2 := of_decide_eq_true h.2; omega)
      rw [ho]
      exact ⟨rfl, put3_below HB3.out (Nat.le_succ _) (.int .i64 0) (.int .i64 0) (.string ⟨#[]⟩)⟩
    have d3 : decide (1099511627776 < c.f1) = false := decide_eq_false k3
    go_enter Try.func38, Try.ntmps38
    go_upto_region 1 with fail
    rw [← HW2.out]
    have z0 : W2.cell? ⟨w.heap.size, 0, none⟩ = some (.int .i64 c.f0) := (blk_cell H0.out 0).trans rfl
    have z1 : W2.cell? ⟨w.heap.size, 1, none⟩ = some (.int .i64 c.f1) := (blk_cell H0.out 1).trans rfl
    have z2 : W2.cell? ⟨w.heap.size, 2, none⟩ = some (.int .i64 c.f2.f0) := (blk_cell H0.out 2).trans rfl
    have z3 : W2.cell? ⟨w.heap.size, 3, none⟩ = some (.int .i64 c.f2.f1) := (blk_cell H0.out 3).trans rfl
    have z4 : W2.cell? ⟨w.heap.size, 4, none⟩ = some (.int .i64 c.f2.f2) := (blk_cell H0.out 4).trans rfl
    have z5 : W2.cell? ⟨w.heap.size, 5, none⟩ = some (.int .i64 c.f2.f3) := (blk_cell H0.out 5).trans rfl
    have z6 : W2.cell? ⟨w.heap.size, 6, none⟩ = some (.int .i64 c.f2.f4.f0) := (blk_cell H0.out 6).trans rfl
    have z7 : W2.cell? ⟨w.heap.size, 7, none⟩ = some (.int .i64 c.f2.f4.f1) := (blk_cell H0.out 7).trans rfl
    have z8 : W2.cell? ⟨w.heap.size, 8, none⟩ = some (.int .i64 c.f2.f4.f2) := (blk_cell H0.out 8).trans rfl
    have z9 : W2.cell? ⟨w.heap.size, 9, none⟩ = some (.int .i64 c.f2.f4.f3) := (blk_cell H0.out 9).trans rfl
    have z10 : W2.cell? ⟨w.heap.size, 10, none⟩ = some (.int .i64 c.f2.f5) := (blk_cell H0.out 10).trans rfl
    have z11 : W2.cell? ⟨w.heap.size, 11, none⟩ = some (.int .i64 c.f2.f6) := (blk_cell H0.out 11).trans rfl
    go_wp2_with (first | (go_at_call 73; go_loud ((with_reducible refine (HENC2.out _).mono ?_); rintro e w3 ⟨rfl, hb3⟩; rw [hae]; have hq0 := blk_below H0.out hb3; have hq1 := blk_below H1.out hb3; have z0 : w3.cell? ⟨w.heap.size, 0, none⟩ = some (.int .i64 c.f0) := (blk_cell hq0 0).trans rfl; have z1 : w3.cell? ⟨w.heap.size, 1, none⟩ = some (.int .i64 c.f1) := (blk_cell hq0 1).trans rfl; have z2 : w3.cell? ⟨w.heap.size, 2, none⟩ = some (.int .i64 c.f2.f0) := (blk_cell hq0 2).trans rfl; have z3 : w3.cell? ⟨w.heap.size, 3, none⟩ = some (.int .i64 c.f2.f1) := (blk_cell hq0 3).trans rfl; have z4 : w3.cell? ⟨w.heap.size, 4, none⟩ = some (.int .i64 c.f2.f2) := (blk_cell hq0 4).trans rfl; have z5 : w3.cell? ⟨w.heap.size, 5, none⟩ = some (.int .i64 c.f2.f3) := (blk_cell hq0 5).trans rfl; have z6 : w3.cell? ⟨w.heap.size, 6, none⟩ = some (.int .i64 c.f2.f4.f0) := (blk_cell hq0 6).trans rfl; have z7 : w3.cell? ⟨w.heap.size, 7, none⟩ = some (.int .i64 c.f2.f4.f1) := (blk_cell hq0 7).trans rfl; have z8 : w3.cell? ⟨w.heap.size, 8, none⟩ = some (.int .i64 c.f2.f4.f2) := (blk_cell hq0 8).trans rfl; have z9 : w3.cell? ⟨w.heap.size, 9, none⟩ = some (.int .i64 c.f2.f4.f3) := (blk_cell hq0 9).trans rfl; have z10 : w3.cell? ⟨w.heap.size, 10, none⟩ = some (.int .i64 c.f2.f5) := (blk_cell hq0 10).trans rfl; have z11 : w3.cell? ⟨w.heap.size, 11, none⟩ = some (.int .i64 c.f2.f6) := (blk_cell hq0 11).trans rfl; have y0 : w3.cell? ⟨w.heap.size + 1, 0, none⟩ = some (.int .i64 0) := (blk_cell hq1 0).trans rfl; have yf0 := blk_frozen hq1 0; have y1 : w3.cell? ⟨w.heap.size + 1, 1, none⟩ = some (.int .i64 0) := (blk_cell hq1 1).trans rfl; have yf1 := blk_frozen hq1 1; have y2 : w3.cell? ⟨w.heap.size + 1, 2, none⟩ = some (.string ⟨#[]⟩) := (blk_cell hq1 2).trans rfl; have yf2 := blk_frozen hq1 2; have HQ1 := Lib.hid hq1; have HB3 := Lib.hid (HB.out.trans (hb3.mono HB.out.size)); clear hq0 hq1 hb3)))
    refine bodyPost_ret (results_ct' rfl _ _ (w.heap.size + 1) 50 #[.int .i64 c.f0, .int .i64 c.f1, .string U] (0, 0) _ rfl (put3_heap HQ1.out (.int .i64 c.f0) (.int .i64 c.f1) (.string U)) Try.underlying50 rfl (by kernel_rfl)) rfl ?_
    have ho : outP c = (⟨c.f0, c.f1, U⟩, 0) := by unfold outP; rw [if_pos ⟨HQ.out, decide_eq_true (by omega)⟩, HU.out]
    rw [ho]
    exact ⟨rfl, put3_below HB3.out (Nat.le_succ _) (.int .i64 c.f0) (.int .i64 c.f1) (.string U)⟩
set_option maxHeartbeats 8000000 in
set_option maxRecDepth 100000 in
theorem outR_calls (c : S46) (hc : aggR c.f2) (w : World) :
    Calls Try.prog 39 #[cellV c] w fun e w' => e = .returned (.tuple #[.agg #[.int .i64 (outP c).1.f0, .int .i64 (outP c).1.f1, .string (outP c).1.f2], .int .i64 (outP c).2]) ∧ Below w.heap.size w w' := by
  have henc := fun w => encodeR_calls c.f2 hc w
  have hu := Try.underlying44
  obtain ⟨U, hU⟩ : ∃ U, encT c.f2 = U := ⟨_, rfl⟩
  obtain ⟨q, hq⟩ : ∃ q, aggOk c.f2 = q := ⟨_, rfl⟩
  rw [hU, hq] at henc
  obtain ⟨W2, hW2⟩ : ∃ W, W = (w.alloc (.cells #[.int .i64 c.f0, .int .i64 c.f1, .int .i64 c.f2.f0, .int .i64 c.f2.f1, .int .i64 c.f2.f2, .int .i64 c.f2.f3, .int .i64 c.f2.f4.f0, .int .i64 c.f2.f4.f1, .int .i64 c.f2.f4.f2, .int .i64 c.f2.f4.f3, .int .i64 c.f2.f5, .int .i64 c.f2.f6] 46)).alloc (.cells #[.int .i64 0, .int .i64 0, .string ⟨#[]⟩] 50) := ⟨_, rfl⟩
  have h0 : W2.heap[w.heap.size]? = some (.cells #[.int .i64 c.f0, .int .i64 c.f1, .int .i64 c.f2.f0, .int .i64 c.f2.f1, .int .i64 c.f2.f2, .int .i64 c.f2.f3, .int .i64 c.f2.f4.f0, .int .i64 c.f2.f4.f1, .int .i64 c.f2.f4.f2, .int .i64 c.f2.f4.f3, .int .i64 c.f2.f5, .int .i64 c.f2.f6] 46 (0, 0)) := by
    rw [hW2, Below.heap_alloc _ _ _ (by simp)]
    exact heap_alloc_new _ _
  have h1 : W2.heap[w.heap.size + 1]? = some (.cells #[.int .i64 0, .int .i64 0, .string ⟨#[]⟩] 50 (0, 0)) := by
    rw [hW2]
    have := heap_alloc_new (w.alloc (.cells #[.int .i64 c.f0, .int .i64 c.f1, .int .i64 c.f2.f0, .int .i64 c.f2.f1, .int .i64 c.f2.f2, .int .i64 c.f2.f3, .int .i64 c.f2.f4.f0, .int .i64 c.f2.f4.f1, .int .i64 c.f2.f4.f2, .int .i64 c.f2.f4.f3, .int .i64 c.f2.f5, .int .i64 c.f2.f6] 46)) (.cells #[.int .i64 0, .int .i64 0, .string ⟨#[]⟩] 50)
    simpa using this
  have hb : Below w.heap.size w W2 := by rw [hW2]; exact below_alloc (below_alloc (Below.refl _ _) _) _
  have HB := Lib.hid hb
  have HW2 := Lib.hid hW2
  have H0 := Lib.hid h0
  have H1 := Lib.hid h1
  have HQ := Lib.hid hq
  have HU := Lib.hid hU
  have HENC := Lib.hid henc
  clear hW2 h0 h1 hb hU hc hq henc
  cases q with
  | false =>
    have HENC2 := HENC
    have hae : argE false = 1 := rfl
    go_enter Try.func39, Try.ntmps39
    go_upto_region 1 with fail
    rw [← HW2.out]
    have z0 : W2.cell? ⟨w.heap.size, 0, none⟩ = some (.int .i64 c.f0) := (blk_cell H0.out 0).trans rfl
    have z1 : W2.cell? ⟨w.heap.size, 1, none⟩ = some (.int .i64 c.f1) := (blk_cell H0.out 1).trans rfl
    have z2 : W2.cell? ⟨w.heap.size, 2, none⟩ = some (.int .i64 c.f2.f0) := (blk_cell H0.out 2).trans rfl
    have z3 : W2.cell? ⟨w.heap.size, 3, none⟩ = some (.int .i64 c.f2.f1) := (blk_cell H0.out 3).trans rfl
    have z4 : W2.cell? ⟨w.heap.size, 4, none⟩ = some (.int .i64 c.f2.f2) := (blk_cell H0.out 4).trans rfl
    have z5 : W2.cell? ⟨w.heap.size, 5, none⟩ = some (.int .i64 c.f2.f3) := (blk_cell H0.out 5).trans rfl
    have z6 : W2.cell? ⟨w.heap.size, 6, none⟩ = some (.int .i64 c.f2.f4.f0) := (blk_cell H0.out 6).trans rfl
    have z7 : W2.cell? ⟨w.heap.size, 7, none⟩ = some (.int .i64 c.f2.f4.f1) := (blk_cell H0.out 7).trans rfl
    have z8 : W2.cell? ⟨w.heap.size, 8, none⟩ = some (.int .i64 c.f2.f4.f2) := (blk_cell H0.out 8).trans rfl
    have z9 : W2.cell? ⟨w.heap.size, 9, none⟩ = some (.int .i64 c.f2.f4.f3) := (blk_cell H0.out 9).trans rfl
    have z10 : W2.cell? ⟨w.heap.size, 10, none⟩ = some (.int .i64 c.f2.f5) := (blk_cell H0.out 10).trans rfl
    have z11 : W2.cell? ⟨w.heap.size, 11, none⟩ = some (.int .i64 c.f2.f6) := (blk_cell H0.out 11).trans rfl
    go_wp2_with (first | (go_at_call 74; go_loud ((with_reducible refine (HENC2.out _).mono ?_); rintro e w3 ⟨rfl, hb3⟩; rw [hae]; have hq0 := blk_below H0.out hb3; have hq1 := blk_below H1.out hb3; have z0 : w3.cell? ⟨w.heap.size, 0, none⟩ = some (.int .i64 c.f0) := (blk_cell hq0 0).trans rfl; have z1 : w3.cell? ⟨w.heap.size, 1, none⟩ = some (.int .i64 c.f1) := (blk_cell hq0 1).trans rfl; have z2 : w3.cell? ⟨w.heap.size, 2, none⟩ = some (.int .i64 c.f2.f0) := (blk_cell hq0 2).trans rfl; have z3 : w3.cell? ⟨w.heap.size, 3, none⟩ = some (.int .i64 c.f2.f1) := (blk_cell hq0 3).trans rfl; have z4 : w3.cell? ⟨w.heap.size, 4, none⟩ = some (.int .i64 c.f2.f2) := (blk_cell hq0 4).trans rfl; have z5 : w3.cell? ⟨w.heap.size, 5, none⟩ = some (.int .i64 c.f2.f3) := (blk_cell hq0 5).trans rfl; have z6 : w3.cell? ⟨w.heap.size, 6, none⟩ = some (.int .i64 c.f2.f4.f0) := (blk_cell hq0 6).trans rfl; have z7 : w3.cell? ⟨w.heap.size, 7, none⟩ = some (.int .i64 c.f2.f4.f1) := (blk_cell hq0 7).trans rfl; have z8 : w3.cell? ⟨w.heap.size, 8, none⟩ = some (.int .i64 c.f2.f4.f2) := (blk_cell hq0 8).trans rfl; have z9 : w3.cell? ⟨w.heap.size, 9, none⟩ = some (.int .i64 c.f2.f4.f3) := (blk_cell hq0 9).trans rfl; have z10 : w3.cell? ⟨w.heap.size, 10, none⟩ = some (.int .i64 c.f2.f5) := (blk_cell hq0 10).trans rfl; have z11 : w3.cell? ⟨w.heap.size, 11, none⟩ = some (.int .i64 c.f2.f6) := (blk_cell hq0 11).trans rfl; have y0 : w3.cell? ⟨w.heap.size + 1, 0, none⟩ = some (.int .i64 0) := (blk_cell hq1 0).trans rfl; have yf0 := blk_frozen hq1 0; have y1 : w3.cell? ⟨w.heap.size + 1, 1, none⟩ = some (.int .i64 0) := (blk_cell hq1 1).trans rfl; have yf1 := blk_frozen hq1 1; have y2 : w3.cell? ⟨w.heap.size + 1, 2, none⟩ = some (.string ⟨#[]⟩) := (blk_cell hq1 2).trans rfl; have yf2 := blk_frozen hq1 2; have HQ1 := Lib.hid hq1; have HB3 := Lib.hid (HB.out.trans (hb3.mono HB.out.size)); clear hq0 hq1 hb3)))
    refine bodyPost_ret (results_ct' rfl _ _ (w.heap.size + 1) 50 #[.int .i64 0, .int .i64 0, .string ⟨#[]⟩] (0, 0) _ rfl (put3_heap HQ1.out (.int .i64 0) (.int .i64 0) (.string ⟨#[]⟩)) Try.underlying50 rfl (by kernel_rfl)) rfl ?_
    have ho : outP c = (⟨0, 0, ⟨#[]⟩⟩, 1) := if_neg (fun h => by rw [HQ.out] at h; exact Bool.noConfusion h.1)
    rw [ho]
    exact ⟨rfl, put3_below HB3.out (Nat.le_succ _) (.int .i64 0) (.int .i64 0) (.string ⟨#[]⟩)⟩
  | true =>
    have HENC2 := HENC
    have hae : argE true = 0 := rfl
    by_cases k0 : c.f0 < 0
    · have d0 : decide (c.f0 < 0) = true := decide_eq_true k0
      go_enter Try.func39, Try.ntmps39
      go_upto_region 1 with fail
      rw [← HW2.out]
      have z0 : W2.cell? ⟨w.heap.size, 0, none⟩ = some (.int .i64 c.f0) := (blk_cell H0.out 0).trans rfl
      have z1 : W2.cell? ⟨w.heap.size, 1, none⟩ = some (.int .i64 c.f1) := (blk_cell H0.out 1).trans rfl
      have z2 : W2.cell? ⟨w.heap.size, 2, none⟩ = some (.int .i64 c.f2.f0) := (blk_cell H0.out 2).trans rfl
      have z3 : W2.cell? ⟨w.heap.size, 3, none⟩ = some (.int .i64 c.f2.f1) := (blk_cell H0.out 3).trans rfl
      have z4 : W2.cell? ⟨w.heap.size, 4, none⟩ = some (.int .i64 c.f2.f2) := (blk_cell H0.out 4).trans rfl
      have z5 : W2.cell? ⟨w.heap.size, 5, none⟩ = some (.int .i64 c.f2.f3) := (blk_cell H0.out 5).trans rfl
      have z6 : W2.cell? ⟨w.heap.size, 6, none⟩ = some (.int .i64 c.f2.f4.f0) := (blk_cell H0.out 6).trans rfl
      have z7 : W2.cell? ⟨w.heap.size, 7, none⟩ = some (.int .i64 c.f2.f4.f1) := (blk_cell H0.out 7).trans rfl
      have z8 : W2.cell? ⟨w.heap.size, 8, none⟩ = some (.int .i64 c.f2.f4.f2) := (blk_cell H0.out 8).trans rfl
      have z9 : W2.cell? ⟨w.heap.size, 9, none⟩ = some (.int .i64 c.f2.f4.f3) := (blk_cell H0.out 9).trans rfl
      have z10 : W2.cell? ⟨w.heap.size, 10, none⟩ = some (.int .i64 c.f2.f5) := (blk_cell H0.out 10).trans rfl
      have z11 : W2.cell? ⟨w.heap.size, 11, none⟩ = some (.int .i64 c.f2.f6) := (blk_cell H0.out 11).trans rfl
      go_wp2_with (first | (go_at_call 74; go_loud ((with_reducible refine (HENC2.out _).mono ?_); rintro e w3 ⟨rfl, hb3⟩; rw [hae]; have hq0 := blk_below H0.out hb3; have hq1 := blk_below H1.out hb3; have z0 : w3.cell? ⟨w.heap.size, 0, none⟩ = some (.int .i64 c.f0) := (blk_cell hq0 0).trans rfl; have z1 : w3.cell? ⟨w.heap.size, 1, none⟩ = some (.int .i64 c.f1) := (blk_cell hq0 1).trans rfl; have z2 : w3.cell? ⟨w.heap.size, 2, none⟩ = some (.int .i64 c.f2.f0) := (blk_cell hq0 2).trans rfl; have z3 : w3.cell? ⟨w.heap.size, 3, none⟩ = some (.int .i64 c.f2.f1) := (blk_cell hq0 3).trans rfl; have z4 : w3.cell? ⟨w.heap.size, 4, none⟩ = some (.int .i64 c.f2.f2) := (blk_cell hq0 4).trans rfl; have z5 : w3.cell? ⟨w.heap.size, 5, none⟩ = some (.int .i64 c.f2.f3) := (blk_cell hq0 5).trans rfl; have z6 : w3.cell? ⟨w.heap.size, 6, none⟩ = some (.int .i64 c.f2.f4.f0) := (blk_cell hq0 6).trans rfl; have z7 : w3.cell? ⟨w.heap.size, 7, none⟩ = some (.int .i64 c.f2.f4.f1) := (blk_cell hq0 7).trans rfl; have z8 : w3.cell? ⟨w.heap.size, 8, none⟩ = some (.int .i64 c.f2.f4.f2) := (blk_cell hq0 8).trans rfl; have z9 : w3.cell? ⟨w.heap.size, 9, none⟩ = some (.int .i64 c.f2.f4.f3) := (blk_cell hq0 9).trans rfl; have z10 : w3.cell? ⟨w.heap.size, 10, none⟩ = some (.int .i64 c.f2.f5) := (blk_cell hq0 10).trans rfl; have z11 : w3.cell? ⟨w.heap.size, 11, none⟩ = some (.int .i64 c.f2.f6) := (blk_cell hq0 11).trans rfl; have y0 : w3.cell? ⟨w.heap.size + 1, 0, none⟩ = some (.int .i64 0) := (blk_cell hq1 0).trans rfl; have yf0 := blk_frozen hq1 0; have y1 : w3.cell? ⟨w.heap.size + 1, 1, none⟩ = some (.int .i64 0) := (blk_cell hq1 1).trans rfl; have yf1 := blk_frozen hq1 1; have y2 : w3.cell? ⟨w.heap.size + 1, 2, none⟩ = some (.string ⟨#[]⟩) := (blk_cell hq1 2).trans rfl; have yf2 := blk_frozen hq1 2; have HQ1 := Lib.hid hq1; have HB3 := Lib.hid (HB.out.trans (hb3.mono HB.out.size)); clear hq0 hq1 hb3)))
      refine bodyPost_ret (results_ct' rfl _ _ (w.heap.size + 1) 50 #[.int .i64 0, .int .i64 0, .string ⟨#[]⟩] (0, 0) _ rfl (put3_heap HQ1.out (.int .i64 0) (.int .i64 0) (.string ⟨#[]⟩)) Try.underlying50 rfl (by kernel_rfl)) rfl ?_
      have ho : outP c = (⟨0, 0, ⟨#[]⟩⟩, 1) := if_neg (fun h => by have h2 := of_decide_eq_true h.2; omega)
      rw [ho]
      exact ⟨rfl, put3_below HB3.out (Nat.le_succ _) (.int .i64 0) (.int .i64 0) (.string ⟨#[]⟩)⟩
    have d0 : decide (c.f0 < 0) = false := decide_eq_false k0
    by_cases k1 : 1048576 < c.f0
    · have d1 : decide (1048576 < c.f0) = true := decide_eq_true k1
      go_enter Try.func39, Try.ntmps39
      go_upto_region 1 with fail
      rw [← HW2.out]
      have z0 : W2.cell? ⟨w.heap.size, 0, none⟩ = some (.int .i64 c.f0) := (blk_cell H0.out 0).trans rfl
      have z1 : W2.cell? ⟨w.heap.size, 1, none⟩ = some (.int .i64 c.f1) := (blk_cell H0.out 1).trans rfl
      have z2 : W2.cell? ⟨w.heap.size, 2, none⟩ = some (.int .i64 c.f2.f0) := (blk_cell H0.out 2).trans rfl
      have z3 : W2.cell? ⟨w.heap.size, 3, none⟩ = some (.int .i64 c.f2.f1) := (blk_cell H0.out 3).trans rfl
      have z4 : W2.cell? ⟨w.heap.size, 4, none⟩ = some (.int .i64 c.f2.f2) := (blk_cell H0.out 4).trans rfl
      have z5 : W2.cell? ⟨w.heap.size, 5, none⟩ = some (.int .i64 c.f2.f3) := (blk_cell H0.out 5).trans rfl
      have z6 : W2.cell? ⟨w.heap.size, 6, none⟩ = some (.int .i64 c.f2.f4.f0) := (blk_cell H0.out 6).trans rfl
      have z7 : W2.cell? ⟨w.heap.size, 7, none⟩ = some (.int .i64 c.f2.f4.f1) := (blk_cell H0.out 7).trans rfl
      have z8 : W2.cell? ⟨w.heap.size, 8, none⟩ = some (.int .i64 c.f2.f4.f2) := (blk_cell H0.out 8).trans rfl
      have z9 : W2.cell? ⟨w.heap.size, 9, none⟩ = some (.int .i64 c.f2.f4.f3) := (blk_cell H0.out 9).trans rfl
      have z10 : W2.cell? ⟨w.heap.size, 10, none⟩ = some (.int .i64 c.f2.f5) := (blk_cell H0.out 10).trans rfl
      have z11 : W2.cell? ⟨w.heap.size, 11, none⟩ = some (.int .i64 c.f2.f6) := (blk_cell H0.out 11).trans rfl
      go_wp2_with (first | (go_at_call 74; go_loud ((with_reducible refine (HENC2.out _).mono ?_); rintro e w3 ⟨rfl, hb3⟩; rw [hae]; have hq0 := blk_below H0.out hb3; have hq1 := blk_below H1.out hb3; have z0 : w3.cell? ⟨w.heap.size, 0, none⟩ = some (.int .i64 c.f0) := (blk_cell hq0 0).trans rfl; have z1 : w3.cell? ⟨w.heap.size, 1, none⟩ = some (.int .i64 c.f1) := (blk_cell hq0 1).trans rfl; have z2 : w3.cell? ⟨w.heap.size, 2, none⟩ = some (.int .i64 c.f2.f0) := (blk_cell hq0 2).trans rfl; have z3 : w3.cell? ⟨w.heap.size, 3, none⟩ = some (.int .i64 c.f2.f1) := (blk_cell hq0 3).trans rfl; have z4 : w3.cell? ⟨w.heap.size, 4, none⟩ = some (.int .i64 c.f2.f2) := (blk_cell hq0 4).trans rfl; have z5 : w3.cell? ⟨w.heap.size, 5, none⟩ = some (.int .i64 c.f2.f3) := (blk_cell hq0 5).trans rfl; have z6 : w3.cell? ⟨w.heap.size, 6, none⟩ = some (.int .i64 c.f2.f4.f0) := (blk_cell hq0 6).trans rfl; have z7 : w3.cell? ⟨w.heap.size, 7, none⟩ = some (.int .i64 c.f2.f4.f1) := (blk_cell hq0 7).trans rfl; have z8 : w3.cell? ⟨w.heap.size, 8, none⟩ = some (.int .i64 c.f2.f4.f2) := (blk_cell hq0 8).trans rfl; have z9 : w3.cell? ⟨w.heap.size, 9, none⟩ = some (.int .i64 c.f2.f4.f3) := (blk_cell hq0 9).trans rfl; have z10 : w3.cell? ⟨w.heap.size, 10, none⟩ = some (.int .i64 c.f2.f5) := (blk_cell hq0 10).trans rfl; have z11 : w3.cell? ⟨w.heap.size, 11, none⟩ = some (.int .i64 c.f2.f6) := (blk_cell hq0 11).trans rfl; have y0 : w3.cell? ⟨w.heap.size + 1, 0, none⟩ = some (.int .i64 0) := (blk_cell hq1 0).trans rfl; have yf0 := blk_frozen hq1 0; have y1 : w3.cell? ⟨w.heap.size + 1, 1, none⟩ = some (.int .i64 0) := (blk_cell hq1 1).trans rfl; have yf1 := blk_frozen hq1 1; have y2 : w3.cell? ⟨w.heap.size + 1, 2, none⟩ = some (.string ⟨#[]⟩) := (blk_cell hq1 2).trans rfl; have yf2 := blk_frozen hq1 2; have HQ1 := Lib.hid hq1; have HB3 := Lib.hid (HB.out.trans (hb3.mono HB.out.size)); clear hq0 hq1 hb3)))
      refine bodyPost_ret (results_ct' rfl _ _ (w.heap.size + 1) 50 #[.int .i64 0, .int .i64 0, .string ⟨#[]⟩] (0, 0) _ rfl (put3_heap HQ1.out (.int .i64 0) (.int .i64 0) (.string ⟨#[]⟩)) Try.underlying50 rfl (by kernel_rfl)) rfl ?_
      have ho : outP c = (⟨0, 0, ⟨#[]⟩⟩, 1) := if_neg (fun h => by have h2 := of_decide_eq_true h.2; omega)
      rw [ho]
      exact ⟨rfl, put3_below HB3.out (Nat.le_succ _) (.int .i64 0) (.int .i64 0) (.string ⟨#[]⟩)⟩
    have d1 : decide (1048576 < c.f0) = false := decide_eq_false k1
    by_cases k2 : c.f1 < 0
    · have d2 : decide (c.f1 < 0) = true := decide_eq_true k2
      go_enter Try.func39, Try.ntmps39
      go_upto_region 1 with fail
      rw [← HW2.out]
      have z0 : W2.cell? ⟨w.heap.size, 0, none⟩ = some (.int .i64 c.f0) := (blk_cell H0.out 0).trans rfl
      have z1 : W2.cell? ⟨w.heap.size, 1, none⟩ = some (.int .i64 c.f1) := (blk_cell H0.out 1).trans rfl
      have z2 : W2.cell? ⟨w.heap.size, 2, none⟩ = some (.int .i64 c.f2.f0) := (blk_cell H0.out 2).trans rfl
      have z3 : W2.cell? ⟨w.heap.size, 3, none⟩ = some (.int .i64 c.f2.f1) := (blk_cell H0.out 3).trans rfl
      have z4 : W2.cell? ⟨w.heap.size, 4, none⟩ = some (.int .i64 c.f2.f2) := (blk_cell H0.out 4).trans rfl
      have z5 : W2.cell? ⟨w.heap.size, 5, none⟩ = some (.int .i64 c.f2.f3) := (blk_cell H0.out 5).trans rfl
      have z6 : W2.cell? ⟨w.heap.size, 6, none⟩ = some (.int .i64 c.f2.f4.f0) := (blk_cell H0.out 6).trans rfl
      have z7 : W2.cell? ⟨w.heap.size, 7, none⟩ = some (.int .i64 c.f2.f4.f1) := (blk_cell H0.out 7).trans rfl
      have z8 : W2.cell? ⟨w.heap.size, 8, none⟩ = some (.int .i64 c.f2.f4.f2) := (blk_cell H0.out 8).trans rfl
      have z9 : W2.cell? ⟨w.heap.size, 9, none⟩ = some (.int .i64 c.f2.f4.f3) := (blk_cell H0.out 9).trans rfl
      have z10 : W2.cell? ⟨w.heap.size, 10, none⟩ = some (.int .i64 c.f2.f5) := (blk_cell H0.out 10).trans rfl
      have z11 : W2.cell? ⟨w.heap.size, 11, none⟩ = some (.int .i64 c.f2.f6) := (blk_cell H0.out 11).trans rfl
      go_wp2_with (first | (go_at_call 74; go_loud ((with_reducible refine (HENC2.out _).mono ?_); rintro e w3 ⟨rfl, hb3⟩; rw [hae]; have hq0 := blk_below H0.out hb3; have hq1 := blk_below H1.out hb3; have z0 : w3.cell? ⟨w.heap.size, 0, none⟩ = some (.int .i64 c.f0) := (blk_cell hq0 0).trans rfl; have z1 : w3.cell? ⟨w.heap.size, 1, none⟩ = some (.int .i64 c.f1) := (blk_cell hq0 1).trans rfl; have z2 : w3.cell? ⟨w.heap.size, 2, none⟩ = some (.int .i64 c.f2.f0) := (blk_cell hq0 2).trans rfl; have z3 : w3.cell? ⟨w.heap.size, 3, none⟩ = some (.int .i64 c.f2.f1) := (blk_cell hq0 3).trans rfl; have z4 : w3.cell? ⟨w.heap.size, 4, none⟩ = some (.int .i64 c.f2.f2) := (blk_cell hq0 4).trans rfl; have z5 : w3.cell? ⟨w.heap.size, 5, none⟩ = some (.int .i64 c.f2.f3) := (blk_cell hq0 5).trans rfl; have z6 : w3.cell? ⟨w.heap.size, 6, none⟩ = some (.int .i64 c.f2.f4.f0) := (blk_cell hq0 6).trans rfl; have z7 : w3.cell? ⟨w.heap.size, 7, none⟩ = some (.int .i64 c.f2.f4.f1) := (blk_cell hq0 7).trans rfl; have z8 : w3.cell? ⟨w.heap.size, 8, none⟩ = some (.int .i64 c.f2.f4.f2) := (blk_cell hq0 8).trans rfl; have z9 : w3.cell? ⟨w.heap.size, 9, none⟩ = some (.int .i64 c.f2.f4.f3) := (blk_cell hq0 9).trans rfl; have z10 : w3.cell? ⟨w.heap.size, 10, none⟩ = some (.int .i64 c.f2.f5) := (blk_cell hq0 10).trans rfl; have z11 : w3.cell? ⟨w.heap.size, 11, none⟩ = some (.int .i64 c.f2.f6) := (blk_cell hq0 11).trans rfl; have y0 : w3.cell? ⟨w.heap.size + 1, 0, none⟩ = some (.int .i64 0) := (blk_cell hq1 0).trans rfl; have yf0 := blk_frozen hq1 0; have y1 : w3.cell? ⟨w.heap.size + 1, 1, none⟩ = some (.int .i64 0) := (blk_cell hq1 1).trans rfl; have yf1 := blk_frozen hq1 1; have y2 : w3.cell? ⟨w.heap.size + 1, 2, none⟩ = some (.string ⟨#[]⟩) := (blk_cell hq1 2).trans rfl; have yf2 := blk_frozen hq1 2; have HQ1 := Lib.hid hq1; have HB3 := Lib.hid (HB.out.trans (hb3.mono HB.out.size)); clear hq0 hq1 hb3)))
      refine bodyPost_ret (results_ct' rfl _ _ (w.heap.size + 1) 50 #[.int .i64 0, .int .i64 0, .string ⟨#[]⟩] (0, 0) _ rfl (put3_heap HQ1.out (.int .i64 0) (.int .i64 0) (.string ⟨#[]⟩)) Try.underlying50 rfl (by kernel_rfl)) rfl ?_
      have ho : outP c = (⟨0, 0, ⟨#[]⟩⟩, 1) := if_neg (fun h => by have h2 := of_decide_eq_true h.2; omega)
      rw [ho]
      exact ⟨rfl, put3_below HB3.out (Nat.le_succ _) (.int .i64 0) (.int .i64 0) (.string ⟨#[]⟩)⟩
    have d2 : decide (c.f1 < 0) = false := decide_eq_false k2
    by_cases k3 : 1099511627776 < c.f1
    · have d3 : decide (1099511627776 < c.f1) = true := decide_eq_true k3
      go_enter Try.func39, Try.ntmps39
      go_upto_region 1 with fail
      rw [← HW2.out]
      have z0 : W2.cell? ⟨w.heap.size, 0, none⟩ = some (.int .i64 c.f0) := (blk_cell H0.out 0).trans rfl
      have z1 : W2.cell? ⟨w.heap.size, 1, none⟩ = some (.int .i64 c.f1) := (blk_cell H0.out 1).trans rfl
      have z2 : W2.cell? ⟨w.heap.size, 2, none⟩ = some (.int .i64 c.f2.f0) := (blk_cell H0.out 2).trans rfl
      have z3 : W2.cell? ⟨w.heap.size, 3, none⟩ = some (.int .i64 c.f2.f1) := (blk_cell H0.out 3).trans rfl
      have z4 : W2.cell? ⟨w.heap.size, 4, none⟩ = some (.int .i64 c.f2.f2) := (blk_cell H0.out 4).trans rfl
      have z5 : W2.cell? ⟨w.heap.size, 5, none⟩ = some (.int .i64 c.f2.f3) := (blk_cell H0.out 5).trans rfl
      have z6 : W2.cell? ⟨w.heap.size, 6, none⟩ = some (.int .i64 c.f2.f4.f0) := (blk_cell H0.out 6).trans rfl
      have z7 : W2.cell? ⟨w.heap.size, 7, none⟩ = some (.int .i64 c.f2.f4.f1) := (blk_cell H0.out 7).trans rfl
      have z8 : W2.cell? ⟨w.heap.size, 8, none⟩ = some (.int .i64 c.f2.f4.f2) := (blk_cell H0.out 8).trans rfl
      have z9 : W2.cell? ⟨w.heap.size, 9, none⟩ = some (.int .i64 c.f2.f4.f3) := (blk_cell H0.out 9).trans rfl
      have z10 : W2.cell? ⟨w.heap.size, 10, none⟩ = some (.int .i64 c.f2.f5) := (blk_cell H0.out 10).trans rfl
      have z11 : W2.cell? ⟨w.heap.size, 11, none⟩ = some (.int .i64 c.f2.f6) := (blk_cell H0.out 11).trans rfl
      go_wp2_with (first | (go_at_call 74; go_loud ((with_reducible refine (HENC2.out _).mono ?_); rintro e w3 ⟨rfl, hb3⟩; rw [hae]; have hq0 := blk_below H0.out hb3; have hq1 := blk_below H1.out hb3; have z0 : w3.cell? ⟨w.heap.size, 0, none⟩ = some (.int .i64 c.f0) := (blk_cell hq0 0).trans rfl; have z1 : w3.cell? ⟨w.heap.size, 1, none⟩ = some (.int .i64 c.f1) := (blk_cell hq0 1).trans rfl; have z2 : w3.cell? ⟨w.heap.size, 2, none⟩ = some (.int .i64 c.f2.f0) := (blk_cell hq0 2).trans rfl; have z3 : w3.cell? ⟨w.heap.size, 3, none⟩ = some (.int .i64 c.f2.f1) := (blk_cell hq0 3).trans rfl; have z4 : w3.cell? ⟨w.heap.size, 4, none⟩ = some (.int .i64 c.f2.f2) := (blk_cell hq0 4).trans rfl; have z5 : w3.cell? ⟨w.heap.size, 5, none⟩ = some (.int .i64 c.f2.f3) := (blk_cell hq0 5).trans rfl; have z6 : w3.cell? ⟨w.heap.size, 6, none⟩ = some (.int .i64 c.f2.f4.f0) := (blk_cell hq0 6).trans rfl; have z7 : w3.cell? ⟨w.heap.size, 7, none⟩ = some (.int .i64 c.f2.f4.f1) := (blk_cell hq0 7).trans rfl; have z8 : w3.cell? ⟨w.heap.size, 8, none⟩ = some (.int .i64 c.f2.f4.f2) := (blk_cell hq0 8).trans rfl; have z9 : w3.cell? ⟨w.heap.size, 9, none⟩ = some (.int .i64 c.f2.f4.f3) := (blk_cell hq0 9).trans rfl; have z10 : w3.cell? ⟨w.heap.size, 10, none⟩ = some (.int .i64 c.f2.f5) := (blk_cell hq0 10).trans rfl; have z11 : w3.cell? ⟨w.heap.size, 11, none⟩ = some (.int .i64 c.f2.f6) := (blk_cell hq0 11).trans rfl; have y0 : w3.cell? ⟨w.heap.size + 1, 0, none⟩ = some (.int .i64 0) := (blk_cell hq1 0).trans rfl; have yf0 := blk_frozen hq1 0; have y1 : w3.cell? ⟨w.heap.size + 1, 1, none⟩ = some (.int .i64 0) := (blk_cell hq1 1).trans rfl; have yf1 := blk_frozen hq1 1; have y2 : w3.cell? ⟨w.heap.size + 1, 2, none⟩ = some (.string ⟨#[]⟩) := (blk_cell hq1 2).trans rfl; have yf2 := blk_frozen hq1 2; have HQ1 := Lib.hid hq1; have HB3 := Lib.hid (HB.out.trans (hb3.mono HB.out.size)); clear hq0 hq1 hb3)))
      refine bodyPost_ret (results_ct' rfl _ _ (w.heap.size + 1) 50 #[.int .i64 0, .int .i64 0, .string ⟨#[]⟩] (0, 0) _ rfl (put3_heap HQ1.out (.int .i64 0) (.int .i64 0) (.string ⟨#[]⟩)) Try.underlying50 rfl (by kernel_rfl)) rfl ?_
      have ho : outP c = (⟨0, 0, ⟨#[]⟩⟩, 1) := if_neg (fun h => by have h2 := of_decide_eq_true h.2; omega)
      rw [ho]
      exact ⟨rfl, put3_below HB3.out (Nat.le_succ _) (.int .i64 0) (.int .i64 0) (.string ⟨#[]⟩)⟩
    have d3 : decide (1099511627776 < c.f1) = false := decide_eq_false k3
    go_enter Try.func39, Try.ntmps39
    go_upto_region 1 with fail
    rw [← HW2.out]
    have z0 : W2.cell? ⟨w.heap.size, 0, none⟩ = some (.int .i64 c.f0) := (blk_cell H0.out 0).trans rfl
    have z1 : W2.cell? ⟨w.heap.size, 1, none⟩ = some (.int .i64 c.f1) := (blk_cell H0.out 1).trans rfl
    have z2 : W2.cell? ⟨w.heap.size, 2, none⟩ = some (.int .i64 c.f2.f0) := (blk_cell H0.out 2).trans rfl
    have z3 : W2.cell? ⟨w.heap.size, 3, none⟩ = some (.int .i64 c.f2.f1) := (blk_cell H0.out 3).trans rfl
    have z4 : W2.cell? ⟨w.heap.size, 4, none⟩ = some (.int .i64 c.f2.f2) := (blk_cell H0.out 4).trans rfl
    have z5 : W2.cell? ⟨w.heap.size, 5, none⟩ = some (.int .i64 c.f2.f3) := (blk_cell H0.out 5).trans rfl
    have z6 : W2.cell? ⟨w.heap.size, 6, none⟩ = some (.int .i64 c.f2.f4.f0) := (blk_cell H0.out 6).trans rfl
    have z7 : W2.cell? ⟨w.heap.size, 7, none⟩ = some (.int .i64 c.f2.f4.f1) := (blk_cell H0.out 7).trans rfl
    have z8 : W2.cell? ⟨w.heap.size, 8, none⟩ = some (.int .i64 c.f2.f4.f2) := (blk_cell H0.out 8).trans rfl
    have z9 : W2.cell? ⟨w.heap.size, 9, none⟩ = some (.int .i64 c.f2.f4.f3) := (blk_cell H0.out 9).trans rfl
    have z10 : W2.cell? ⟨w.heap.size, 10, none⟩ = some (.int .i64 c.f2.f5) := (blk_cell H0.out 10).trans rfl
    have z11 : W2.cell? ⟨w.heap.size, 11, none⟩ = some (.int .i64 c.f2.f6) := (blk_cell H0.out 11).trans rfl
    go_wp2_with (first | (go_at_call 74; go_loud ((with_reducible refine (HENC2.out _).mono ?_); rintro e w3 ⟨rfl, hb3⟩; rw [hae]; have hq0 := blk_below H0.out hb3; have hq1 := blk_below H1.out hb3; have z0 : w3.cell? ⟨w.heap.size, 0, none⟩ = some (.int .i64 c.f0) := (blk_cell hq0 0).trans rfl; have z1 : w3.cell? ⟨w.heap.size, 1, none⟩ = some (.int .i64 c.f1) := (blk_cell hq0 1).trans rfl; have z2 : w3.cell? ⟨w.heap.size, 2, none⟩ = some (.int .i64 c.f2.f0) := (blk_cell hq0 2).trans rfl; have z3 : w3.cell? ⟨w.heap.size, 3, none⟩ = some (.int .i64 c.f2.f1) := (blk_cell hq0 3).trans rfl; have z4 : w3.cell? ⟨w.heap.size, 4, none⟩ = some (.int .i64 c.f2.f2) := (blk_cell hq0 4).trans rfl; have z5 : w3.cell? ⟨w.heap.size, 5, none⟩ = some (.int .i64 c.f2.f3) := (blk_cell hq0 5).trans rfl; have z6 : w3.cell? ⟨w.heap.size, 6, none⟩ = some (.int .i64 c.f2.f4.f0) := (blk_cell hq0 6).trans rfl; have z7 : w3.cell? ⟨w.heap.size, 7, none⟩ = some (.int .i64 c.f2.f4.f1) := (blk_cell hq0 7).trans rfl; have z8 : w3.cell? ⟨w.heap.size, 8, none⟩ = some (.int .i64 c.f2.f4.f2) := (blk_cell hq0 8).trans rfl; have z9 : w3.cell? ⟨w.heap.size, 9, none⟩ = some (.int .i64 c.f2.f4.f3) := (blk_cell hq0 9).trans rfl; have z10 : w3.cell? ⟨w.heap.size, 10, none⟩ = some (.int .i64 c.f2.f5) := (blk_cell hq0 10).trans rfl; have z11 : w3.cell? ⟨w.heap.size, 11, none⟩ = some (.int .i64 c.f2.f6) := (blk_cell hq0 11).trans rfl; have y0 : w3.cell? ⟨w.heap.size + 1, 0, none⟩ = some (.int .i64 0) := (blk_cell hq1 0).trans rfl; have yf0 := blk_frozen hq1 0; have y1 : w3.cell? ⟨w.heap.size + 1, 1, none⟩ = some (.int .i64 0) := (blk_cell hq1 1).trans rfl; have yf1 := blk_frozen hq1 1; have y2 : w3.cell? ⟨w.heap.size + 1, 2, none⟩ = some (.string ⟨#[]⟩) := (blk_cell hq1 2).trans rfl; have yf2 := blk_frozen hq1 2; have HQ1 := Lib.hid hq1; have HB3 := Lib.hid (HB.out.trans (hb3.mono HB.out.size)); clear hq0 hq1 hb3)))
    refine bodyPost_ret (results_ct' rfl _ _ (w.heap.size + 1) 50 #[.int .i64 c.f0, .int .i64 c.f1, .string U] (0, 0) _ rfl (put3_heap HQ1.out (.int .i64 c.f0) (.int .i64 c.f1) (.string U)) Try.underlying50 rfl (by kernel_rfl)) rfl ?_
    have ho : outP c = (⟨c.f0, c.f1, U⟩, 0) := by unfold outP; rw [if_pos ⟨HQ.out, decide_eq_true (by omega)⟩, HU.out]
    rw [ho]
    exact ⟨rfl, put3_below HB3.out (Nat.le_succ _) (.int .i64 c.f0) (.int .i64 c.f1) (.string U)⟩
end Go.Proofs.Ytgipepjpkmlmaaa.P
