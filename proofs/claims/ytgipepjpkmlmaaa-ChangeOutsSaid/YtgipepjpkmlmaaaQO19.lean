import Derived.Test.YtgipepjpkmlmaaaQO1
import Derived.Test.YtgipepjpkmlmaaaQO2
import Derived.Test.YtgipepjpkmlmaaaQO3
import Derived.Test.YtgipepjpkmlmaaaQO4
import Derived.Test.YtgipepjpkmlmaaaQO5
import Derived.Test.YtgipepjpkmlmaaaQO6
import Derived.Test.YtgipepjpkmlmaaaQO7
import Derived.Test.YtgipepjpkmlmaaaQO8
import Derived.Test.YtgipepjpkmlmaaaQO9
import Derived.Test.YtgipepjpkmlmaaaQO10
import Derived.Test.YtgipepjpkmlmaaaQO11
import Derived.Test.YtgipepjpkmlmaaaQO14
import Derived.Test.YtgipepjpkmlmaaaQO16
namespace Go.Proofs.Ytgipepjpkmlmaaa.P
open Go.RowKit Go.Proofs.YtgipepjpkmlmaaaW.PrintWords Go.Proofs.YtgipepjpkmlmaaaW.PrintLast Go.Proofs.YtgipepjpkmlmaaaW.PrintMore
set_option linter.unusedVariables false
set_option linter.unusedSimpArgs false
set_option maxHeartbeats 8000000 in
set_option maxRecDepth 100000 in
theorem in_calls (r : S50) (hs : r.f2.size ≤ 1000000000) (w : World) :
    Calls Try.prog 40 #[.agg #[.int .i64 r.f0, .int .i64 r.f1, .string r.f2]] w fun e w' => e = .returned (.tuple #[cellV (inP r).1, .int .i64 (inP r).2]) ∧ Below w.heap.size w w' := by
  have hdec := fun w => decode2_calls r.f2 hs w
  have hout := fun w => out_calls ⟨r.f0, r.f1, (decP r.f2).1⟩ (dec_R r.f2) w
  have hde := dec_e r.f2
  have hdb := dec_back r.f2
  obtain ⟨D, hD⟩ : ∃ D, decP r.f2 = D := ⟨_, rfl⟩
  rw [hD] at hdec hout hde hdb
  obtain ⟨a, e⟩ := D
  simp only at hdec hde hdb
  have HD := Lib.hid hD
  have HDB := Lib.hid hdb
  have hu := Try.underlying44
  have hu46 := Try.underlying46
  obtain ⟨W2, hW2⟩ : ∃ W, W = (w.alloc (.cells #[.int .i64 r.f0, .int .i64 r.f1, .string r.f2] 50)).alloc (.cells #[.int .i64 0, .int .i64 0, .int .i64 0, .int .i64 0, .int .i64 0, .int .i64 0, .int .i64 0, .int .i64 0, .int .i64 0, .int .i64 0, .int .i64 0, .int .i64 0] 46) := ⟨_, rfl⟩
  have h0 : W2.heap[w.heap.size]? = some (.cells #[.int .i64 r.f0, .int .i64 r.f1, .string r.f2] 50 (0, 0)) := by
    rw [hW2, Below.heap_alloc _ _ _ (by simp)]
    exact heap_alloc_new _ _
  have h1 : W2.heap[w.heap.size + 1]? = some (.cells #[.int .i64 0, .int .i64 0, .int .i64 0, .int .i64 0, .int .i64 0, .int .i64 0, .int .i64 0, .int .i64 0, .int .i64 0, .int .i64 0, .int .i64 0, .int .i64 0] 46 (0, 0)) := by
    rw [hW2]
    have := heap_alloc_new (w.alloc (.cells #[.int .i64 r.f0, .int .i64 r.f1, .string r.f2] 50)) (.cells #[.int .i64 0, .int .i64 0, .int .i64 0, .int .i64 0, .int .i64 0, .int .i64 0, .int .i64 0, .int .i64 0, .int .i64 0, .int .i64 0, .int .i64 0, .int .i64 0] 46)
    simpa using this
  have hb : Below w.heap.size w W2 := by rw [hW2]; exact below_alloc (below_alloc (Below.refl _ _) _) _
  have HB := Lib.hid hb
  have HW2 := Lib.hid hW2
  have H0 := Lib.hid h0
  have H1 := Lib.hid h1
  have HDEC := Lib.hid hdec
  have HOUT := Lib.hid hout
  clear hW2 h0 h1 hb hD hs hdec hout hdb
  obtain ⟨O, hO⟩ : ∃ O, outP ⟨r.f0, r.f1, a⟩ = O := ⟨_, rfl⟩
  obtain ⟨o, oe⟩ := O
  have hout := HOUT.out
  simp only at hout
  rw [hO] at hout
  simp only at hout
  have HO := Lib.hid hO
  replace HOUT := Lib.hid hout
  clear hO hout
  have hoe : oe = 0 ∨ oe = 1 := by
    have h := HO.out
    unfold outP at h
    split at h
    · exact .inl (congrArg Prod.snd h).symm
    · exact .inr (congrArg Prod.snd h).symm
  rcases hde with rfl | rfl
  · rcases hoe with rfl | rfl
    · go_enter Try.func40, Try.ntmps40
      go_upto_region 1 with fail
      rw [← HW2.out]
      have z0 : W2.cell? ⟨w.heap.size, 0, none⟩ = some (.int .i64 r.f0) := (blk_cell H0.out 0).trans rfl
      have z1 : W2.cell? ⟨w.heap.size, 1, none⟩ = some (.int .i64 r.f1) := (blk_cell H0.out 1).trans rfl
      have z2 : W2.cell? ⟨w.heap.size, 2, none⟩ = some (.string r.f2) := (blk_cell H0.out 2).trans rfl
      go_upto_region 2 with (first | (go_at_call 70; go_loud ((with_reducible refine (HDEC.out _).mono ?_); rintro e' w3 ⟨rfl, hb3⟩; have hq0 := blk_below H0.out hb3; have hq1 := blk_below H1.out hb3; have z0 : w3.cell? ⟨w.heap.size, 0, none⟩ = some (.int .i64 r.f0) := (blk_cell hq0 0).trans rfl; have z1 : w3.cell? ⟨w.heap.size, 1, none⟩ = some (.int .i64 r.f1) := (blk_cell hq0 1).trans rfl; have z2 : w3.cell? ⟨w.heap.size, 2, none⟩ = some (.string r.f2) := (blk_cell hq0 2).trans rfl; have y0 : w3.cell? ⟨w.heap.size + 1, 0, none⟩ = some (.int .i64 0) := (blk_cell hq1 0).trans rfl; have yf0 := blk_frozen hq1 0; have y1 : w3.cell? ⟨w.heap.size + 1, 1, none⟩ = some (.int .i64 0) := (blk_cell hq1 1).trans rfl; have yf1 := blk_frozen hq1 1; have y2 : w3.cell? ⟨w.heap.size + 1, 2, none⟩ = some (.int .i64 0) := (blk_cell hq1 2).trans rfl; have yf2 := blk_frozen hq1 2; have y3 : w3.cell? ⟨w.heap.size + 1, 3, none⟩ = some (.int .i64 0) := (blk_cell hq1 3).trans rfl; have yf3 := blk_frozen hq1 3; have y4 : w3.cell? ⟨w.heap.size + 1, 4, none⟩ = some (.int .i64 0) := (blk_cell hq1 4).trans rfl; have yf4 := blk_frozen hq1 4; have y5 : w3.cell? ⟨w.heap.size + 1, 5, none⟩ = some (.int .i64 0) := (blk_cell hq1 5).trans rfl; have yf5 := blk_frozen hq1 5; have y6 : w3.cell? ⟨w.heap.size + 1, 6, none⟩ = some (.int .i64 0) := (blk_cell hq1 6).trans rfl; have yf6 := blk_frozen hq1 6; have y7 : w3.cell? ⟨w.heap.size + 1, 7, none⟩ = some (.int .i64 0) := (blk_cell hq1 7).trans rfl; have yf7 := blk_frozen hq1 7; have y8 : w3.cell? ⟨w.heap.size + 1, 8, none⟩ = some (.int .i64 0) := (blk_cell hq1 8).trans rfl; have yf8 := blk_frozen hq1 8; have y9 : w3.cell? ⟨w.heap.size + 1, 9, none⟩ = some (.int .i64 0) := (blk_cell hq1 9).trans rfl; have yf9 := blk_frozen hq1 9; have y10 : w3.cell? ⟨w.heap.size + 1, 10, none⟩ = some (.int .i64 0) := (blk_cell hq1 10).trans rfl; have yf10 := blk_frozen hq1 10; have y11 : w3.cell? ⟨w.heap.size + 1, 11, none⟩ = some (.int .i64 0) := (blk_cell hq1 11).trans rfl; have yf11 := blk_frozen hq1 11; have HQ1 := Lib.hid hq1; have HB3 := Lib.hid hb3; clear hq0 hq1 hb3)))
      obtain ⟨W4, hW4⟩ : ∃ W, W = w3.alloc (.cells #[.int .i64 a.f0, .int .i64 a.f1, .int .i64 a.f2, .int .i64 a.f3, .int .i64 a.f4.f0, .int .i64 a.f4.f1, .int .i64 a.f4.f2, .int .i64 a.f4.f3, .int .i64 a.f5, .int .i64 a.f6] 44) := ⟨_, rfl⟩
      have hb4 : Below W2.heap.size W2 W4 := by rw [hW4]; exact HB3.out.alloc HB3.out.size _
      have hg4 : W4.heap[w3.heap.size]? = some (.cells #[.int .i64 a.f0, .int .i64 a.f1, .int .i64 a.f2, .int .i64 a.f3, .int .i64 a.f4.f0, .int .i64 a.f4.f1, .int .i64 a.f4.f2, .int .i64 a.f4.f3, .int .i64 a.f5, .int .i64 a.f6] 44 (0, 0)) := by rw [hW4]; exact heap_alloc_new _ _
      rw [← hW4]
      clear hW4 HQ1
      have hq0 := blk_below H0.out hb4
      have hq1 := blk_below H1.out hb4
      have z0 : W4.cell? ⟨w.heap.size, 0, none⟩ = some (.int .i64 r.f0) := (blk_cell hq0 0).trans rfl
      have z1 : W4.cell? ⟨w.heap.size, 1, none⟩ = some (.int .i64 r.f1) := (blk_cell hq0 1).trans rfl
      have z2 : W4.cell? ⟨w.heap.size, 2, none⟩ = some (.string r.f2) := (blk_cell hq0 2).trans rfl
      have y0 : W4.cell? ⟨w.heap.size + 1, 0, none⟩ = some (.int .i64 0) := (blk_cell hq1 0).trans rfl
      have yf0 := blk_frozen hq1 0
      have y1 : W4.cell? ⟨w.heap.size + 1, 1, none⟩ = some (.int .i64 0) := (blk_cell hq1 1).trans rfl
      have yf1 := blk_frozen hq1 1
      have y2 : W4.cell? ⟨w.heap.size + 1, 2, none⟩ = some (.int .i64 0) := (blk_cell hq1 2).trans rfl
      have yf2 := blk_frozen hq1 2
      have y3 : W4.cell? ⟨w.heap.size + 1, 3, none⟩ = some (.int .i64 0) := (blk_cell hq1 3).trans rfl
      have yf3 := blk_frozen hq1 3
      have y4 : W4.cell? ⟨w.heap.size + 1, 4, none⟩ = some (.int .i64 0) := (blk_cell hq1 4).trans rfl
      have yf4 := blk_frozen hq1 4
      have y5 : W4.cell? ⟨w.heap.size + 1, 5, none⟩ = some (.int .i64 0) := (blk_cell hq1 5).trans rfl
      have yf5 := blk_frozen hq1 5
      have y6 : W4.cell? ⟨w.heap.size + 1, 6, none⟩ = some (.int .i64 0) := (blk_cell hq1 6).trans rfl
      have yf6 := blk_frozen hq1 6
      have y7 : W4.cell? ⟨w.heap.size + 1, 7, none⟩ = some (.int .i64 0) := (blk_cell hq1 7).trans rfl
      have yf7 := blk_frozen hq1 7
      have y8 : W4.cell? ⟨w.heap.size + 1, 8, none⟩ = some (.int .i64 0) := (blk_cell hq1 8).trans rfl
      have yf8 := blk_frozen hq1 8
      have y9 : W4.cell? ⟨w.heap.size + 1, 9, none⟩ = some (.int .i64 0) := (blk_cell hq1 9).trans rfl
      have yf9 := blk_frozen hq1 9
      have y10 : W4.cell? ⟨w.heap.size + 1, 10, none⟩ = some (.int .i64 0) := (blk_cell hq1 10).trans rfl
      have yf10 := blk_frozen hq1 10
      have y11 : W4.cell? ⟨w.heap.size + 1, 11, none⟩ = some (.int .i64 0) := (blk_cell hq1 11).trans rfl
      have yf11 := blk_frozen hq1 11
      have x0 : W4.cell? ⟨w3.heap.size, 0, none⟩ = some (.int .i64 a.f0) := (blk_cell hg4 0).trans rfl
      have x1 : W4.cell? ⟨w3.heap.size, 1, none⟩ = some (.int .i64 a.f1) := (blk_cell hg4 1).trans rfl
      have x2 : W4.cell? ⟨w3.heap.size, 2, none⟩ = some (.int .i64 a.f2) := (blk_cell hg4 2).trans rfl
      have x3 : W4.cell? ⟨w3.heap.size, 3, none⟩ = some (.int .i64 a.f3) := (blk_cell hg4 3).trans rfl
      have x4 : W4.cell? ⟨w3.heap.size, 4, none⟩ = some (.int .i64 a.f4.f0) := (blk_cell hg4 4).trans rfl
      have x5 : W4.cell? ⟨w3.heap.size, 5, none⟩ = some (.int .i64 a.f4.f1) := (blk_cell hg4 5).trans rfl
      have x6 : W4.cell? ⟨w3.heap.size, 6, none⟩ = some (.int .i64 a.f4.f2) := (blk_cell hg4 6).trans rfl
      have x7 : W4.cell? ⟨w3.heap.size, 7, none⟩ = some (.int .i64 a.f4.f3) := (blk_cell hg4 7).trans rfl
      have x8 : W4.cell? ⟨w3.heap.size, 8, none⟩ = some (.int .i64 a.f5) := (blk_cell hg4 8).trans rfl
      have x9 : W4.cell? ⟨w3.heap.size, 9, none⟩ = some (.int .i64 a.f6) := (blk_cell hg4 9).trans rfl
      have HQ1 := Lib.hid hq1
      have HB4 := Lib.hid (HB.out.trans (hb4.mono HB.out.size))
      have HG4 := Lib.hid hg4
      clear hq0 hq1 hb4 hg4
      go_upto_region 3 with fail
      obtain ⟨W5, hW5⟩ : ∃ W, W = W4.alloc (.cells #[.int .i64 r.f0, .int .i64 r.f1, .int .i64 a.f0, .int .i64 a.f1, .int .i64 a.f2, .int .i64 a.f3, .int .i64 a.f4.f0, .int .i64 a.f4.f1, .int .i64 a.f4.f2, .int .i64 a.f4.f3, .int .i64 a.f5, .int .i64 a.f6] 46) := ⟨_, rfl⟩
      have hb5 : Below w.heap.size w W5 := by rw [hW5]; exact HB4.out.alloc HB4.out.size _
      have hg5 : W5.heap[W4.heap.size]? = some (.cells #[.int .i64 r.f0, .int .i64 r.f1, .int .i64 a.f0, .int .i64 a.f1, .int .i64 a.f2, .int .i64 a.f3, .int .i64 a.f4.f0, .int .i64 a.f4.f1, .int .i64 a.f4.f2, .int .i64 a.f4.f3, .int .i64 a.f5, .int .i64 a.f6] 46 (0, 0)) := by rw [hW5]; exact heap_alloc_new _ _
      have hq5 := blk_below HQ1.out (show Below W4.heap.size W4 W5 by rw [hW5]; exact (Below.refl _ _).alloc (Nat.le_refl _) _)
      rw [← hW5]
      clear hW5 x0 x1 x2 x3 x4 x5 x6 x7 x8 x9 y0 yf0 y1 yf1 y2 yf2 y3 yf3 y4 yf4 y5 yf5 y6 yf6 y7 yf7 y8 yf8 y9 yf9 y10 yf10 y11 yf11 z0 z1 z2
      have z0 : W5.cell? ⟨W4.heap.size, 0, none⟩ = some (.int .i64 r.f0) := (blk_cell hg5 0).trans rfl
      have z1 : W5.cell? ⟨W4.heap.size, 1, none⟩ = some (.int .i64 r.f1) := (blk_cell hg5 1).trans rfl
      have z2 : W5.cell? ⟨W4.heap.size, 2, none⟩ = some (.int .i64 a.f0) := (blk_cell hg5 2).trans rfl
      have z3 : W5.cell? ⟨W4.heap.size, 3, none⟩ = some (.int .i64 a.f1) := (blk_cell hg5 3).trans rfl
      have z4 : W5.cell? ⟨W4.heap.size, 4, none⟩ = some (.int .i64 a.f2) := (blk_cell hg5 4).trans rfl
      have z5 : W5.cell? ⟨W4.heap.size, 5, none⟩ = some (.int .i64 a.f3) := (blk_cell hg5 5).trans rfl
      have z6 : W5.cell? ⟨W4.heap.size, 6, none⟩ = some (.int .i64 a.f4.f0) := (blk_cell hg5 6).trans rfl
      have z7 : W5.cell? ⟨W4.heap.size, 7, none⟩ = some (.int .i64 a.f4.f1) := (blk_cell hg5 7).trans rfl
      have z8 : W5.cell? ⟨W4.heap.size, 8, none⟩ = some (.int .i64 a.f4.f2) := (blk_cell hg5 8).trans rfl
      have z9 : W5.cell? ⟨W4.heap.size, 9, none⟩ = some (.int .i64 a.f4.f3) := (blk_cell hg5 9).trans rfl
      have z10 : W5.cell? ⟨W4.heap.size, 10, none⟩ = some (.int .i64 a.f5) := (blk_cell hg5 10).trans rfl
      have z11 : W5.cell? ⟨W4.heap.size, 11, none⟩ = some (.int .i64 a.f6) := (blk_cell hg5 11).trans rfl
      have HB5 := Lib.hid hb5
      have HG5 := Lib.hid hg5
      have HQ5 := Lib.hid hq5
      clear hb5 hg5 hq5
      go_upto_region 4 with (first | (go_at_call 38; go_loud ((with_reducible refine (HOUT.out _).mono ?_); rintro e' w6 ⟨rfl, hb6⟩; have hq6 := blk_below HG5.out hb6; have hz6 := blk_below HQ5.out hb6; have z0 : w6.cell? ⟨W4.heap.size, 0, none⟩ = some (.int .i64 r.f0) := (blk_cell hq6 0).trans rfl; have z1 : w6.cell? ⟨W4.heap.size, 1, none⟩ = some (.int .i64 r.f1) := (blk_cell hq6 1).trans rfl; have z2 : w6.cell? ⟨W4.heap.size, 2, none⟩ = some (.int .i64 a.f0) := (blk_cell hq6 2).trans rfl; have z3 : w6.cell? ⟨W4.heap.size, 3, none⟩ = some (.int .i64 a.f1) := (blk_cell hq6 3).trans rfl; have z4 : w6.cell? ⟨W4.heap.size, 4, none⟩ = some (.int .i64 a.f2) := (blk_cell hq6 4).trans rfl; have z5 : w6.cell? ⟨W4.heap.size, 5, none⟩ = some (.int .i64 a.f3) := (blk_cell hq6 5).trans rfl; have z6 : w6.cell? ⟨W4.heap.size, 6, none⟩ = some (.int .i64 a.f4.f0) := (blk_cell hq6 6).trans rfl; have z7 : w6.cell? ⟨W4.heap.size, 7, none⟩ = some (.int .i64 a.f4.f1) := (blk_cell hq6 7).trans rfl; have z8 : w6.cell? ⟨W4.heap.size, 8, none⟩ = some (.int .i64 a.f4.f2) := (blk_cell hq6 8).trans rfl; have z9 : w6.cell? ⟨W4.heap.size, 9, none⟩ = some (.int .i64 a.f4.f3) := (blk_cell hq6 9).trans rfl; have z10 : w6.cell? ⟨W4.heap.size, 10, none⟩ = some (.int .i64 a.f5) := (blk_cell hq6 10).trans rfl; have z11 : w6.cell? ⟨W4.heap.size, 11, none⟩ = some (.int .i64 a.f6) := (blk_cell hq6 11).trans rfl; have y0 : w6.cell? ⟨w.heap.size + 1, 0, none⟩ = some (.int .i64 0) := (blk_cell hz6 0).trans rfl; have yf0 := blk_frozen hz6 0; have y1 : w6.cell? ⟨w.heap.size + 1, 1, none⟩ = some (.int .i64 0) := (blk_cell hz6 1).trans rfl; have yf1 := blk_frozen hz6 1; have y2 : w6.cell? ⟨w.heap.size + 1, 2, none⟩ = some (.int .i64 0) := (blk_cell hz6 2).trans rfl; have yf2 := blk_frozen hz6 2; have y3 : w6.cell? ⟨w.heap.size + 1, 3, none⟩ = some (.int .i64 0) := (blk_cell hz6 3).trans rfl; have yf3 := blk_frozen hz6 3; have y4 : w6.cell? ⟨w.heap.size + 1, 4, none⟩ = some (.int .i64 0) := (blk_cell hz6 4).trans rfl; have yf4 := blk_frozen hz6 4; have y5 : w6.cell? ⟨w.heap.size + 1, 5, none⟩ = some (.int .i64 0) := (blk_cell hz6 5).trans rfl; have yf5 := blk_frozen hz6 5; have y6 : w6.cell? ⟨w.heap.size + 1, 6, none⟩ = some (.int .i64 0) := (blk_cell hz6 6).trans rfl; have yf6 := blk_frozen hz6 6; have y7 : w6.cell? ⟨w.heap.size + 1, 7, none⟩ = some (.int .i64 0) := (blk_cell hz6 7).trans rfl; have yf7 := blk_frozen hz6 7; have y8 : w6.cell? ⟨w.heap.size + 1, 8, none⟩ = some (.int .i64 0) := (blk_cell hz6 8).trans rfl; have yf8 := blk_frozen hz6 8; have y9 : w6.cell? ⟨w.heap.size + 1, 9, none⟩ = some (.int .i64 0) := (blk_cell hz6 9).trans rfl; have yf9 := blk_frozen hz6 9; have y10 : w6.cell? ⟨w.heap.size + 1, 10, none⟩ = some (.int .i64 0) := (blk_cell hz6 10).trans rfl; have yf10 := blk_frozen hz6 10; have y11 : w6.cell? ⟨w.heap.size + 1, 11, none⟩ = some (.int .i64 0) := (blk_cell hz6 11).trans rfl; have yf11 := blk_frozen hz6 11; have HQ6 := Lib.hid hz6; have HB6 := Lib.hid (HB5.out.trans (hb6.mono HB5.out.size)); clear hq6 hz6 hb6)))
      obtain ⟨W7, hW7⟩ : ∃ W, W = w6.alloc (.cells #[.int .i64 o.f0, .int .i64 o.f1, .string o.f2] 50) := ⟨_, rfl⟩
      have hb7 : Below w6.heap.size w6 W7 := by rw [hW7]; exact (Below.refl _ _).alloc (Nat.le_refl _) _
      have hq7 := blk_below HQ6.out hb7
      have HBZ := Lib.hid (HB6.out.trans (hb7.mono HB6.out.size))
      have xz_ := fun k v (h : w6.cell? ⟨W4.heap.size, k, none⟩ = some v) => below_cell hb7 h
      replace z0 := xz_ _ _ z0
      replace z1 := xz_ _ _ z1
      replace z2 := xz_ _ _ z2
      replace z3 := xz_ _ _ z3
      replace z4 := xz_ _ _ z4
      replace z5 := xz_ _ _ z5
      replace z6 := xz_ _ _ z6
      replace z7 := xz_ _ _ z7
      replace z8 := xz_ _ _ z8
      replace z9 := xz_ _ _ z9
      replace z10 := xz_ _ _ z10
      replace z11 := xz_ _ _ z11
      rw [← hW7]
      clear hW7 hb7 xz_ y0 yf0 y1 yf1 y2 yf2 y3 yf3 y4 yf4 y5 yf5 y6 yf6 y7 yf7 y8 yf8 y9 yf9 y10 yf10 y11 yf11
      have y0 : W7.cell? ⟨w.heap.size + 1, 0, none⟩ = some (.int .i64 0) := (blk_cell hq7 0).trans rfl
      have yf0 := blk_frozen hq7 0
      have y1 : W7.cell? ⟨w.heap.size + 1, 1, none⟩ = some (.int .i64 0) := (blk_cell hq7 1).trans rfl
      have yf1 := blk_frozen hq7 1
      have y2 : W7.cell? ⟨w.heap.size + 1, 2, none⟩ = some (.int .i64 0) := (blk_cell hq7 2).trans rfl
      have yf2 := blk_frozen hq7 2
      have y3 : W7.cell? ⟨w.heap.size + 1, 3, none⟩ = some (.int .i64 0) := (blk_cell hq7 3).trans rfl
      have yf3 := blk_frozen hq7 3
      have y4 : W7.cell? ⟨w.heap.size + 1, 4, none⟩ = some (.int .i64 0) := (blk_cell hq7 4).trans rfl
      have yf4 := blk_frozen hq7 4
      have y5 : W7.cell? ⟨w.heap.size + 1, 5, none⟩ = some (.int .i64 0) := (blk_cell hq7 5).trans rfl
      have yf5 := blk_frozen hq7 5
      have y6 : W7.cell? ⟨w.heap.size + 1, 6, none⟩ = some (.int .i64 0) := (blk_cell hq7 6).trans rfl
      have yf6 := blk_frozen hq7 6
      have y7 : W7.cell? ⟨w.heap.size + 1, 7, none⟩ = some (.int .i64 0) := (blk_cell hq7 7).trans rfl
      have yf7 := blk_frozen hq7 7
      have y8 : W7.cell? ⟨w.heap.size + 1, 8, none⟩ = some (.int .i64 0) := (blk_cell hq7 8).trans rfl
      have yf8 := blk_frozen hq7 8
      have y9 : W7.cell? ⟨w.heap.size + 1, 9, none⟩ = some (.int .i64 0) := (blk_cell hq7 9).trans rfl
      have yf9 := blk_frozen hq7 9
      have y10 : W7.cell? ⟨w.heap.size + 1, 10, none⟩ = some (.int .i64 0) := (blk_cell hq7 10).trans rfl
      have yf10 := blk_frozen hq7 10
      have y11 : W7.cell? ⟨w.heap.size + 1, 11, none⟩ = some (.int .i64 0) := (blk_cell hq7 11).trans rfl
      have yf11 := blk_frozen hq7 11
      have HQZ := Lib.hid hq7
      clear hq7
      go_wp2
      refine bodyPost_ret (results_ct' rfl _ _ (w.heap.size + 1) 46 #[.int .i64 r.f0, .int .i64 r.f1, .int .i64 a.f0, .int .i64 a.f1, .int .i64 a.f2, .int .i64 a.f3, .int .i64 a.f4.f0, .int .i64 a.f4.f1, .int .i64 a.f4.f2, .int .i64 a.f4.f3, .int .i64 a.f5, .int .i64 a.f6] (0, 0) _ rfl (put46_heap HQZ.out (.int .i64 r.f0) (.int .i64 r.f1) (.int .i64 a.f0) (.int .i64 a.f1) (.int .i64 a.f2) (.int .i64 a.f3) (.int .i64 a.f4.f0) (.int .i64 a.f4.f1) (.int .i64 a.f4.f2) (.int .i64 a.f4.f3) (.int .i64 a.f5) (.int .i64 a.f6)) Try.underlying46 rfl (by kernel_rfl)) rfl ?_
      have ho : inP r = (⟨r.f0, r.f1, a⟩, 0) := by unfold inP; rw [HD.out, if_pos ⟨rfl, decide_eq_true (outP_rng HO.out)⟩]
      rw [ho]
      exact ⟨rfl, put46_below HBZ.out (Nat.le_succ _) (.int .i64 r.f0) (.int .i64 r.f1) (.int .i64 a.f0) (.int .i64 a.f1) (.int .i64 a.f2) (.int .i64 a.f3) (.int .i64 a.f4.f0) (.int .i64 a.f4.f1) (.int .i64 a.f4.f2) (.int .i64 a.f4.f3) (.int .i64 a.f5) (.int .i64 a.f6)⟩
    · go_enter Try.func40, Try.ntmps40
      go_upto_region 1 with fail
      rw [← HW2.out]
      have z0 : W2.cell? ⟨w.heap.size, 0, none⟩ = some (.int .i64 r.f0) := (blk_cell H0.out 0).trans rfl
      have z1 : W2.cell? ⟨w.heap.size, 1, none⟩ = some (.int .i64 r.f1) := (blk_cell H0.out 1).trans rfl
      have z2 : W2.cell? ⟨w.heap.size, 2, none⟩ = some (.string r.f2) := (blk_cell H0.out 2).trans rfl
      go_upto_region 2 with (first | (go_at_call 70; go_loud ((with_reducible refine (HDEC.out _).mono ?_); rintro e' w3 ⟨rfl, hb3⟩; have hq0 := blk_below H0.out hb3; have hq1 := blk_below H1.out hb3; have z0 : w3.cell? ⟨w.heap.size, 0, none⟩ = some (.int .i64 r.f0) := (blk_cell hq0 0).trans rfl; have z1 : w3.cell? ⟨w.heap.size, 1, none⟩ = some (.int .i64 r.f1) := (blk_cell hq0 1).trans rfl; have z2 : w3.cell? ⟨w.heap.size, 2, none⟩ = some (.string r.f2) := (blk_cell hq0 2).trans rfl; have y0 : w3.cell? ⟨w.heap.size + 1, 0, none⟩ = some (.int .i64 0) := (blk_cell hq1 0).trans rfl; have yf0 := blk_frozen hq1 0; have y1 : w3.cell? ⟨w.heap.size + 1, 1, none⟩ = some (.int .i64 0) := (blk_cell hq1 1).trans rfl; have yf1 := blk_frozen hq1 1; have y2 : w3.cell? ⟨w.heap.size + 1, 2, none⟩ = some (.int .i64 0) := (blk_cell hq1 2).trans rfl; have yf2 := blk_frozen hq1 2; have y3 : w3.cell? ⟨w.heap.size + 1, 3, none⟩ = some (.int .i64 0) := (blk_cell hq1 3).trans rfl; have yf3 := blk_frozen hq1 3; have y4 : w3.cell? ⟨w.heap.size + 1, 4, none⟩ = some (.int .i64 0) := (blk_cell hq1 4).trans rfl; have yf4 := blk_frozen hq1 4; have y5 : w3.cell? ⟨w.heap.size + 1, 5, none⟩ = some (.int .i64 0) := (blk_cell hq1 5).trans rfl; have yf5 := blk_frozen hq1 5; have y6 : w3.cell? ⟨w.heap.size + 1, 6, none⟩ = some (.int .i64 0) := (blk_cell hq1 6).trans rfl; have yf6 := blk_frozen hq1 6; have y7 : w3.cell? ⟨w.heap.size + 1, 7, none⟩ = some (.int .i64 0) := (blk_cell hq1 7).trans rfl; have yf7 := blk_frozen hq1 7; have y8 : w3.cell? ⟨w.heap.size + 1, 8, none⟩ = some (.int .i64 0) := (blk_cell hq1 8).trans rfl; have yf8 := blk_frozen hq1 8; have y9 : w3.cell? ⟨w.heap.size + 1, 9, none⟩ = some (.int .i64 0) := (blk_cell hq1 9).trans rfl; have yf9 := blk_frozen hq1 9; have y10 : w3.cell? ⟨w.heap.size + 1, 10, none⟩ = some (.int .i64 0) := (blk_cell hq1 10).trans rfl; have yf10 := blk_frozen hq1 10; have y11 : w3.cell? ⟨w.heap.size + 1, 11, none⟩ = some (.int .i64 0) := (blk_cell hq1 11).trans rfl; have yf11 := blk_frozen hq1 11; have HQ1 := Lib.hid hq1; have HB3 := Lib.hid hb3; clear hq0 hq1 hb3)))
      obtain ⟨W4, hW4⟩ : ∃ W, W = w3.alloc (.cells #[.int .i64 a.f0, .int .i64 a.f1, .int .i64 a.f2, .int .i64 a.f3, .int .i64 a.f4.f0, .int .i64 a.f4.f1, .int .i64 a.f4.f2, .int .i64 a.f4.f3, .int .i64 a.f5, .int .i64 a.f6] 44) := ⟨_, rfl⟩
      have hb4 : Below W2.heap.size W2 W4 := by rw [hW4]; exact HB3.out.alloc HB3.out.size _
      have hg4 : W4.heap[w3.heap.size]? = some (.cells #[.int .i64 a.f0, .int .i64 a.f1, .int .i64 a.f2, .int .i64 a.f3, .int .i64 a.f4.f0, .int .i64 a.f4.f1, .int .i64 a.f4.f2, .int .i64 a.f4.f3, .int .i64 a.f5, .int .i64 a.f6] 44 (0, 0)) := by rw [hW4]; exact heap_alloc_new _ _
      rw [← hW4]
      clear hW4 HQ1
      have hq0 := blk_below H0.out hb4
      have hq1 := blk_below H1.out hb4
      have z0 : W4.cell? ⟨w.heap.size, 0, none⟩ = some (.int .i64 r.f0) := (blk_cell hq0 0).trans rfl
      have z1 : W4.cell? ⟨w.heap.size, 1, none⟩ = some (.int .i64 r.f1) := (blk_cell hq0 1).trans rfl
      have z2 : W4.cell? ⟨w.heap.size, 2, none⟩ = some (.string r.f2) := (blk_cell hq0 2).trans rfl
      have y0 : W4.cell? ⟨w.heap.size + 1, 0, none⟩ = some (.int .i64 0) := (blk_cell hq1 0).trans rfl
      have yf0 := blk_frozen hq1 0
      have y1 : W4.cell? ⟨w.heap.size + 1, 1, none⟩ = some (.int .i64 0) := (blk_cell hq1 1).trans rfl
      have yf1 := blk_frozen hq1 1
      have y2 : W4.cell? ⟨w.heap.size + 1, 2, none⟩ = some (.int .i64 0) := (blk_cell hq1 2).trans rfl
      have yf2 := blk_frozen hq1 2
      have y3 : W4.cell? ⟨w.heap.size + 1, 3, none⟩ = some (.int .i64 0) := (blk_cell hq1 3).trans rfl
      have yf3 := blk_frozen hq1 3
      have y4 : W4.cell? ⟨w.heap.size + 1, 4, none⟩ = some (.int .i64 0) := (blk_cell hq1 4).trans rfl
      have yf4 := blk_frozen hq1 4
      have y5 : W4.cell? ⟨w.heap.size + 1, 5, none⟩ = some (.int .i64 0) := (blk_cell hq1 5).trans rfl
      have yf5 := blk_frozen hq1 5
      have y6 : W4.cell? ⟨w.heap.size + 1, 6, none⟩ = some (.int .i64 0) := (blk_cell hq1 6).trans rfl
      have yf6 := blk_frozen hq1 6
      have y7 : W4.cell? ⟨w.heap.size + 1, 7, none⟩ = some (.int .i64 0) := (blk_cell hq1 7).trans rfl
      have yf7 := blk_frozen hq1 7
      have y8 : W4.cell? ⟨w.heap.size + 1, 8, none⟩ = some (.int .i64 0) := (blk_cell hq1 8).trans rfl
      have yf8 := blk_frozen hq1 8
      have y9 : W4.cell? ⟨w.heap.size + 1, 9, none⟩ = some (.int .i64 0) := (blk_cell hq1 9).trans rfl
      have yf9 := blk_frozen hq1 9
      have y10 : W4.cell? ⟨w.heap.size + 1, 10, none⟩ = some (.int .i64 0) := (blk_cell hq1 10).trans rfl
      have yf10 := blk_frozen hq1 10
      have y11 : W4.cell? ⟨w.heap.size + 1, 11, none⟩ = some (.int .i64 0) := (blk_cell hq1 11).trans rfl
      have yf11 := blk_frozen hq1 11
      have x0 : W4.cell? ⟨w3.heap.size, 0, none⟩ = some (.int .i64 a.f0) := (blk_cell hg4 0).trans rfl
      have x1 : W4.cell? ⟨w3.heap.size, 1, none⟩ = some (.int .i64 a.f1) := (blk_cell hg4 1).trans rfl
      have x2 : W4.cell? ⟨w3.heap.size, 2, none⟩ = some (.int .i64 a.f2) := (blk_cell hg4 2).trans rfl
      have x3 : W4.cell? ⟨w3.heap.size, 3, none⟩ = some (.int .i64 a.f3) := (blk_cell hg4 3).trans rfl
      have x4 : W4.cell? ⟨w3.heap.size, 4, none⟩ = some (.int .i64 a.f4.f0) := (blk_cell hg4 4).trans rfl
      have x5 : W4.cell? ⟨w3.heap.size, 5, none⟩ = some (.int .i64 a.f4.f1) := (blk_cell hg4 5).trans rfl
      have x6 : W4.cell? ⟨w3.heap.size, 6, none⟩ = some (.int .i64 a.f4.f2) := (blk_cell hg4 6).trans rfl
      have x7 : W4.cell? ⟨w3.heap.size, 7, none⟩ = some (.int .i64 a.f4.f3) := (blk_cell hg4 7).trans rfl
      have x8 : W4.cell? ⟨w3.heap.size, 8, none⟩ = some (.int .i64 a.f5) := (blk_cell hg4 8).trans rfl
      have x9 : W4.cell? ⟨w3.heap.size, 9, none⟩ = some (.int .i64 a.f6) := (blk_cell hg4 9).trans rfl
      have HQ1 := Lib.hid hq1
      have HB4 := Lib.hid (HB.out.trans (hb4.mono HB.out.size))
      have HG4 := Lib.hid hg4
      clear hq0 hq1 hb4 hg4
      go_upto_region 3 with fail
      obtain ⟨W5, hW5⟩ : ∃ W, W = W4.alloc (.cells #[.int .i64 r.f0, .int .i64 r.f1, .int .i64 a.f0, .int .i64 a.f1, .int .i64 a.f2, .int .i64 a.f3, .int .i64 a.f4.f0, .int .i64 a.f4.f1, .int .i64 a.f4.f2, .int .i64 a.f4.f3, .int .i64 a.f5, .int .i64 a.f6] 46) := ⟨_, rfl⟩
      have hb5 : Below w.heap.size w W5 := by rw [hW5]; exact HB4.out.alloc HB4.out.size _
      have hg5 : W5.heap[W4.heap.size]? = some (.cells #[.int .i64 r.f0, .int .i64 r.f1, .int .i64 a.f0, .int .i64 a.f1, .int .i64 a.f2, .int .i64 a.f3, .int .i64 a.f4.f0, .int .i64 a.f4.f1, .int .i64 a.f4.f2, .int .i64 a.f4.f3, .int .i64 a.f5, .int .i64 a.f6] 46 (0, 0)) := by rw [hW5]; exact heap_alloc_new _ _
      have hq5 := blk_below HQ1.out (show Below W4.heap.size W4 W5 by rw [hW5]; exact (Below.refl _ _).alloc (Nat.le_refl _) _)
      rw [← hW5]
      clear hW5 x0 x1 x2 x3 x4 x5 x6 x7 x8 x9 y0 yf0 y1 yf1 y2 yf2 y3 yf3 y4 yf4 y5 yf5 y6 yf6 y7 yf7 y8 yf8 y9 yf9 y10 yf10 y11 yf11 z0 z1 z2
      have z0 : W5.cell? ⟨W4.heap.size, 0, none⟩ = some (.int .i64 r.f0) := (blk_cell hg5 0).trans rfl
      have z1 : W5.cell? ⟨W4.heap.size, 1, none⟩ = some (.int .i64 r.f1) := (blk_cell hg5 1).trans rfl
      have z2 : W5.cell? ⟨W4.heap.size, 2, none⟩ = some (.int .i64 a.f0) := (blk_cell hg5 2).trans rfl
      have z3 : W5.cell? ⟨W4.heap.size, 3, none⟩ = some (.int .i64 a.f1) := (blk_cell hg5 3).trans rfl
      have z4 : W5.cell? ⟨W4.heap.size, 4, none⟩ = some (.int .i64 a.f2) := (blk_cell hg5 4).trans rfl
      have z5 : W5.cell? ⟨W4.heap.size, 5, none⟩ = some (.int .i64 a.f3) := (blk_cell hg5 5).trans rfl
      have z6 : W5.cell? ⟨W4.heap.size, 6, none⟩ = some (.int .i64 a.f4.f0) := (blk_cell hg5 6).trans rfl
      have z7 : W5.cell? ⟨W4.heap.size, 7, none⟩ = some (.int .i64 a.f4.f1) := (blk_cell hg5 7).trans rfl
      have z8 : W5.cell? ⟨W4.heap.size, 8, none⟩ = some (.int .i64 a.f4.f2) := (blk_cell hg5 8).trans rfl
      have z9 : W5.cell? ⟨W4.heap.size, 9, none⟩ = some (.int .i64 a.f4.f3) := (blk_cell hg5 9).trans rfl
      have z10 : W5.cell? ⟨W4.heap.size, 10, none⟩ = some (.int .i64 a.f5) := (blk_cell hg5 10).trans rfl
      have z11 : W5.cell? ⟨W4.heap.size, 11, none⟩ = some (.int .i64 a.f6) := (blk_cell hg5 11).trans rfl
      have HB5 := Lib.hid hb5
      have HG5 := Lib.hid hg5
      have HQ5 := Lib.hid hq5
      clear hb5 hg5 hq5
      go_upto_region 4 with (first | (go_at_call 38; go_loud ((with_reducible refine (HOUT.out _).mono ?_); rintro e' w6 ⟨rfl, hb6⟩; have hq6 := blk_below HG5.out hb6; have hz6 := blk_below HQ5.out hb6; have z0 : w6.cell? ⟨W4.heap.size, 0, none⟩ = some (.int .i64 r.f0) := (blk_cell hq6 0).trans rfl; have z1 : w6.cell? ⟨W4.heap.size, 1, none⟩ = some (.int .i64 r.f1) := (blk_cell hq6 1).trans rfl; have z2 : w6.cell? ⟨W4.heap.size, 2, none⟩ = some (.int .i64 a.f0) := (blk_cell hq6 2).trans rfl; have z3 : w6.cell? ⟨W4.heap.size, 3, none⟩ = some (.int .i64 a.f1) := (blk_cell hq6 3).trans rfl; have z4 : w6.cell? ⟨W4.heap.size, 4, none⟩ = some (.int .i64 a.f2) := (blk_cell hq6 4).trans rfl; have z5 : w6.cell? ⟨W4.heap.size, 5, none⟩ = some (.int .i64 a.f3) := (blk_cell hq6 5).trans rfl; have z6 : w6.cell? ⟨W4.heap.size, 6, none⟩ = some (.int .i64 a.f4.f0) := (blk_cell hq6 6).trans rfl; have z7 : w6.cell? ⟨W4.heap.size, 7, none⟩ = some (.int .i64 a.f4.f1) := (blk_cell hq6 7).trans rfl; have z8 : w6.cell? ⟨W4.heap.size, 8, none⟩ = some (.int .i64 a.f4.f2) := (blk_cell hq6 8).trans rfl; have z9 : w6.cell? ⟨W4.heap.size, 9, none⟩ = some (.int .i64 a.f4.f3) := (blk_cell hq6 9).trans rfl; have z10 : w6.cell? ⟨W4.heap.size, 10, none⟩ = some (.int .i64 a.f5) := (blk_cell hq6 10).trans rfl; have z11 : w6.cell? ⟨W4.heap.size, 11, none⟩ = some (.int .i64 a.f6) := (blk_cell hq6 11).trans rfl; have y0 : w6.cell? ⟨w.heap.size + 1, 0, none⟩ = some (.int .i64 0) := (blk_cell hz6 0).trans rfl; have yf0 := blk_frozen hz6 0; have y1 : w6.cell? ⟨w.heap.size + 1, 1, none⟩ = some (.int .i64 0) := (blk_cell hz6 1).trans rfl; have yf1 := blk_frozen hz6 1; have y2 : w6.cell? ⟨w.heap.size + 1, 2, none⟩ = some (.int .i64 0) := (blk_cell hz6 2).trans rfl; have yf2 := blk_frozen hz6 2; have y3 : w6.cell? ⟨w.heap.size + 1, 3, none⟩ = some (.int .i64 0) := (blk_cell hz6 3).trans rfl; have yf3 := blk_frozen hz6 3; have y4 : w6.cell? ⟨w.heap.size + 1, 4, none⟩ = some (.int .i64 0) := (blk_cell hz6 4).trans rfl; have yf4 := blk_frozen hz6 4; have y5 : w6.cell? ⟨w.heap.size + 1, 5, none⟩ = some (.int .i64 0) := (blk_cell hz6 5).trans rfl; have yf5 := blk_frozen hz6 5; have y6 : w6.cell? ⟨w.heap.size + 1, 6, none⟩ = some (.int .i64 0) := (blk_cell hz6 6).trans rfl; have yf6 := blk_frozen hz6 6; have y7 : w6.cell? ⟨w.heap.size + 1, 7, none⟩ = some (.int .i64 0) := (blk_cell hz6 7).trans rfl; have yf7 := blk_frozen hz6 7; have y8 : w6.cell? ⟨w.heap.size + 1, 8, none⟩ = some (.int .i64 0) := (blk_cell hz6 8).trans rfl; have yf8 := blk_frozen hz6 8; have y9 : w6.cell? ⟨w.heap.size + 1, 9, none⟩ = some (.int .i64 0) := (blk_cell hz6 9).trans rfl; have yf9 := blk_frozen hz6 9; have y10 : w6.cell? ⟨w.heap.size + 1, 10, none⟩ = some (.int .i64 0) := (blk_cell hz6 10).trans rfl; have yf10 := blk_frozen hz6 10; have y11 : w6.cell? ⟨w.heap.size + 1, 11, none⟩ = some (.int .i64 0) := (blk_cell hz6 11).trans rfl; have yf11 := blk_frozen hz6 11; have HQ6 := Lib.hid hz6; have HB6 := Lib.hid (HB5.out.trans (hb6.mono HB5.out.size)); clear hq6 hz6 hb6)))
      obtain ⟨W7, hW7⟩ : ∃ W, W = w6.alloc (.cells #[.int .i64 o.f0, .int .i64 o.f1, .string o.f2] 50) := ⟨_, rfl⟩
      have hb7 : Below w6.heap.size w6 W7 := by rw [hW7]; exact (Below.refl _ _).alloc (Nat.le_refl _) _
      have hq7 := blk_below HQ6.out hb7
      have HBZ := Lib.hid (HB6.out.trans (hb7.mono HB6.out.size))
      have xz_ := fun k v (h : w6.cell? ⟨W4.heap.size, k, none⟩ = some v) => below_cell hb7 h
      replace z0 := xz_ _ _ z0
      replace z1 := xz_ _ _ z1
      replace z2 := xz_ _ _ z2
      replace z3 := xz_ _ _ z3
      replace z4 := xz_ _ _ z4
      replace z5 := xz_ _ _ z5
      replace z6 := xz_ _ _ z6
      replace z7 := xz_ _ _ z7
      replace z8 := xz_ _ _ z8
      replace z9 := xz_ _ _ z9
      replace z10 := xz_ _ _ z10
      replace z11 := xz_ _ _ z11
      rw [← hW7]
      clear hW7 hb7 xz_ y0 yf0 y1 yf1 y2 yf2 y3 yf3 y4 yf4 y5 yf5 y6 yf6 y7 yf7 y8 yf8 y9 yf9 y10 yf10 y11 yf11
      have y0 : W7.cell? ⟨w.heap.size + 1, 0, none⟩ = some (.int .i64 0) := (blk_cell hq7 0).trans rfl
      have yf0 := blk_frozen hq7 0
      have y1 : W7.cell? ⟨w.heap.size + 1, 1, none⟩ = some (.int .i64 0) := (blk_cell hq7 1).trans rfl
      have yf1 := blk_frozen hq7 1
      have y2 : W7.cell? ⟨w.heap.size + 1, 2, none⟩ = some (.int .i64 0) := (blk_cell hq7 2).trans rfl
      have yf2 := blk_frozen hq7 2
      have y3 : W7.cell? ⟨w.heap.size + 1, 3, none⟩ = some (.int .i64 0) := (blk_cell hq7 3).trans rfl
      have yf3 := blk_frozen hq7 3
      have y4 : W7.cell? ⟨w.heap.size + 1, 4, none⟩ = some (.int .i64 0) := (blk_cell hq7 4).trans rfl
      have yf4 := blk_frozen hq7 4
      have y5 : W7.cell? ⟨w.heap.size + 1, 5, none⟩ = some (.int .i64 0) := (blk_cell hq7 5).trans rfl
      have yf5 := blk_frozen hq7 5
      have y6 : W7.cell? ⟨w.heap.size + 1, 6, none⟩ = some (.int .i64 0) := (blk_cell hq7 6).trans rfl
      have yf6 := blk_frozen hq7 6
      have y7 : W7.cell? ⟨w.heap.size + 1, 7, none⟩ = some (.int .i64 0) := (blk_cell hq7 7).trans rfl
      have yf7 := blk_frozen hq7 7
      have y8 : W7.cell? ⟨w.heap.size + 1, 8, none⟩ = some (.int .i64 0) := (blk_cell hq7 8).trans rfl
      have yf8 := blk_frozen hq7 8
      have y9 : W7.cell? ⟨w.heap.size + 1, 9, none⟩ = some (.int .i64 0) := (blk_cell hq7 9).trans rfl
      have yf9 := blk_frozen hq7 9
      have y10 : W7.cell? ⟨w.heap.size + 1, 10, none⟩ = some (.int .i64 0) := (blk_cell hq7 10).trans rfl
      have yf10 := blk_frozen hq7 10
      have y11 : W7.cell? ⟨w.heap.size + 1, 11, none⟩ = some (.int .i64 0) := (blk_cell hq7 11).trans rfl
      have yf11 := blk_frozen hq7 11
      have HQZ := Lib.hid hq7
      clear hq7
      go_wp2
      refine bodyPost_ret (results_ct' rfl _ _ (w.heap.size + 1) 46 #[.int .i64 0, .int .i64 0, .int .i64 0, .int .i64 0, .int .i64 0, .int .i64 0, .int .i64 0, .int .i64 0, .int .i64 0, .int .i64 0, .int .i64 0, .int .i64 0] (0, 0) _ rfl (put46_heap HQZ.out (.int .i64 0) (.int .i64 0) (.int .i64 0) (.int .i64 0) (.int .i64 0) (.int .i64 0) (.int .i64 0) (.int .i64 0) (.int .i64 0) (.int .i64 0) (.int .i64 0) (.int .i64 0)) Try.underlying46 rfl (by kernel_rfl)) rfl ?_
      have ho : inP r = (z46, 2) := if_neg (fun h => by have h1 := HO.out; unfold outP at h1; rw [if_pos ⟨(HDB.out (by first | rfl | trivial)).2.2, h.2⟩] at h1; cases h1)
      rw [ho]
      exact ⟨rfl, put46_below HBZ.out (Nat.le_succ _) (.int .i64 0) (.int .i64 0) (.int .i64 0) (.int .i64 0) (.int .i64 0) (.int .i64 0) (.int .i64 0) (.int .i64 0) (.int .i64 0) (.int .i64 0) (.int .i64 0) (.int .i64 0)⟩
  · go_enter Try.func40, Try.ntmps40
    go_upto_region 1 with fail
    rw [← HW2.out]
    have z0 : W2.cell? ⟨w.heap.size, 0, none⟩ = some (.int .i64 r.f0) := (blk_cell H0.out 0).trans rfl
    have z1 : W2.cell? ⟨w.heap.size, 1, none⟩ = some (.int .i64 r.f1) := (blk_cell H0.out 1).trans rfl
    have z2 : W2.cell? ⟨w.heap.size, 2, none⟩ = some (.string r.f2) := (blk_cell H0.out 2).trans rfl
    go_upto_region 2 with (first | (go_at_call 70; go_loud ((with_reducible refine (HDEC.out _).mono ?_); rintro e' w3 ⟨rfl, hb3⟩; have hq0 := blk_below H0.out hb3; have hq1 := blk_below H1.out hb3; have z0 : w3.cell? ⟨w.heap.size, 0, none⟩ = some (.int .i64 r.f0) := (blk_cell hq0 0).trans rfl; have z1 : w3.cell? ⟨w.heap.size, 1, none⟩ = some (.int .i64 r.f1) := (blk_cell hq0 1).trans rfl; have z2 : w3.cell? ⟨w.heap.size, 2, none⟩ = some (.string r.f2) := (blk_cell hq0 2).trans rfl; have y0 : w3.cell? ⟨w.heap.size + 1, 0, none⟩ = some (.int .i64 0) := (blk_cell hq1 0).trans rfl; have yf0 := blk_frozen hq1 0; have y1 : w3.cell? ⟨w.heap.size + 1, 1, none⟩ = some (.int .i64 0) := (blk_cell hq1 1).trans rfl; have yf1 := blk_frozen hq1 1; have y2 : w3.cell? ⟨w.heap.size + 1, 2, none⟩ = some (.int .i64 0) := (blk_cell hq1 2).trans rfl; have yf2 := blk_frozen hq1 2; have y3 : w3.cell? ⟨w.heap.size + 1, 3, none⟩ = some (.int .i64 0) := (blk_cell hq1 3).trans rfl; have yf3 := blk_frozen hq1 3; have y4 : w3.cell? ⟨w.heap.size + 1, 4, none⟩ = some (.int .i64 0) := (blk_cell hq1 4).trans rfl; have yf4 := blk_frozen hq1 4; have y5 : w3.cell? ⟨w.heap.size + 1, 5, none⟩ = some (.int .i64 0) := (blk_cell hq1 5).trans rfl; have yf5 := blk_frozen hq1 5; have y6 : w3.cell? ⟨w.heap.size + 1, 6, none⟩ = some (.int .i64 0) := (blk_cell hq1 6).trans rfl; have yf6 := blk_frozen hq1 6; have y7 : w3.cell? ⟨w.heap.size + 1, 7, none⟩ = some (.int .i64 0) := (blk_cell hq1 7).trans rfl; have yf7 := blk_frozen hq1 7; have y8 : w3.cell? ⟨w.heap.size + 1, 8, none⟩ = some (.int .i64 0) := (blk_cell hq1 8).trans rfl; have yf8 := blk_frozen hq1 8; have y9 : w3.cell? ⟨w.heap.size + 1, 9, none⟩ = some (.int .i64 0) := (blk_cell hq1 9).trans rfl; have yf9 := blk_frozen hq1 9; have y10 : w3.cell? ⟨w.heap.size + 1, 10, none⟩ = some (.int .i64 0) := (blk_cell hq1 10).trans rfl; have yf10 := blk_frozen hq1 10; have y11 : w3.cell? ⟨w.heap.size + 1, 11, none⟩ = some (.int .i64 0) := (blk_cell hq1 11).trans rfl; have yf11 := blk_frozen hq1 11; have HQ1 := Lib.hid hq1; have HB3 := Lib.hid hb3; clear hq0 hq1 hb3)))
    obtain ⟨W4, hW4⟩ : ∃ W, W = w3.alloc (.cells #[.int .i64 a.f0, .int .i64 a.f1, .int .i64 a.f2, .int .i64 a.f3, .int .i64 a.f4.f0, .int .i64 a.f4.f1, .int .i64 a.f4.f2, .int .i64 a.f4.f3, .int .i64 a.f5, .int .i64 a.f6] 44) := ⟨_, rfl⟩
    have hb4 : Below W2.heap.size W2 W4 := by rw [hW4]; exact HB3.out.alloc HB3.out.size _
    have hg4 : W4.heap[w3.heap.size]? = some (.cells #[.int .i64 a.f0, .int .i64 a.f1, .int .i64 a.f2, .int .i64 a.f3, .int .i64 a.f4.f0, .int .i64 a.f4.f1, .int .i64 a.f4.f2, .int .i64 a.f4.f3, .int .i64 a.f5, .int .i64 a.f6] 44 (0, 0)) := by rw [hW4]; exact heap_alloc_new _ _
    rw [← hW4]
    clear hW4 HQ1
    have hq0 := blk_below H0.out hb4
    have hq1 := blk_below H1.out hb4
    have z0 : W4.cell? ⟨w.heap.size, 0, none⟩ = some (.int .i64 r.f0) := (blk_cell hq0 0).trans rfl
    have z1 : W4.cell? ⟨w.heap.size, 1, none⟩ = some (.int .i64 r.f1) := (blk_cell hq0 1).trans rfl
    have z2 : W4.cell? ⟨w.heap.size, 2, none⟩ = some (.string r.f2) := (blk_cell hq0 2).trans rfl
    have y0 : W4.cell? ⟨w.heap.size + 1, 0, none⟩ = some (.int .i64 0) := (blk_cell hq1 0).trans rfl
    have yf0 := blk_frozen hq1 0
    have y1 : W4.cell? ⟨w.heap.size + 1, 1, none⟩ = some (.int .i64 0) := (blk_cell hq1 1).trans rfl
    have yf1 := blk_frozen hq1 1
    have y2 : W4.cell? ⟨w.heap.size + 1, 2, none⟩ = some (.int .i64 0) := (blk_cell hq1 2).trans rfl
    have yf2 := blk_frozen hq1 2
    have y3 : W4.cell? ⟨w.heap.size + 1, 3, none⟩ = some (.int .i64 0) := (blk_cell hq1 3).trans rfl
    have yf3 := blk_frozen hq1 3
    have y4 : W4.cell? ⟨w.heap.size + 1, 4, none⟩ = some (.int .i64 0) := (blk_cell hq1 4).trans rfl
    have yf4 := blk_frozen hq1 4
    have y5 : W4.cell? ⟨w.heap.size + 1, 5, none⟩ = some (.int .i64 0) := (blk_cell hq1 5).trans rfl
    have yf5 := blk_frozen hq1 5
    have y6 : W4.cell? ⟨w.heap.size + 1, 6, none⟩ = some (.int .i64 0) := (blk_cell hq1 6).trans rfl
    have yf6 := blk_frozen hq1 6
    have y7 : W4.cell? ⟨w.heap.size + 1, 7, none⟩ = some (.int .i64 0) := (blk_cell hq1 7).trans rfl
    have yf7 := blk_frozen hq1 7
    have y8 : W4.cell? ⟨w.heap.size + 1, 8, none⟩ = some (.int .i64 0) := (blk_cell hq1 8).trans rfl
    have yf8 := blk_frozen hq1 8
    have y9 : W4.cell? ⟨w.heap.size + 1, 9, none⟩ = some (.int .i64 0) := (blk_cell hq1 9).trans rfl
    have yf9 := blk_frozen hq1 9
    have y10 : W4.cell? ⟨w.heap.size + 1, 10, none⟩ = some (.int .i64 0) := (blk_cell hq1 10).trans rfl
    have yf10 := blk_frozen hq1 10
    have y11 : W4.cell? ⟨w.heap.size + 1, 11, none⟩ = some (.int .i64 0) := (blk_cell hq1 11).trans rfl
    have yf11 := blk_frozen hq1 11
    have x0 : W4.cell? ⟨w3.heap.size, 0, none⟩ = some (.int .i64 a.f0) := (blk_cell hg4 0).trans rfl
    have x1 : W4.cell? ⟨w3.heap.size, 1, none⟩ = some (.int .i64 a.f1) := (blk_cell hg4 1).trans rfl
    have x2 : W4.cell? ⟨w3.heap.size, 2, none⟩ = some (.int .i64 a.f2) := (blk_cell hg4 2).trans rfl
    have x3 : W4.cell? ⟨w3.heap.size, 3, none⟩ = some (.int .i64 a.f3) := (blk_cell hg4 3).trans rfl
    have x4 : W4.cell? ⟨w3.heap.size, 4, none⟩ = some (.int .i64 a.f4.f0) := (blk_cell hg4 4).trans rfl
    have x5 : W4.cell? ⟨w3.heap.size, 5, none⟩ = some (.int .i64 a.f4.f1) := (blk_cell hg4 5).trans rfl
    have x6 : W4.cell? ⟨w3.heap.size, 6, none⟩ = some (.int .i64 a.f4.f2) := (blk_cell hg4 6).trans rfl
    have x7 : W4.cell? ⟨w3.heap.size, 7, none⟩ = some (.int .i64 a.f4.f3) := (blk_cell hg4 7).trans rfl
    have x8 : W4.cell? ⟨w3.heap.size, 8, none⟩ = some (.int .i64 a.f5) := (blk_cell hg4 8).trans rfl
    have x9 : W4.cell? ⟨w3.heap.size, 9, none⟩ = some (.int .i64 a.f6) := (blk_cell hg4 9).trans rfl
    have HQ1 := Lib.hid hq1
    have HB4 := Lib.hid (HB.out.trans (hb4.mono HB.out.size))
    have HG4 := Lib.hid hg4
    clear hq0 hq1 hb4 hg4
    go_upto_region 3 with fail
    obtain ⟨W5, hW5⟩ : ∃ W, W = W4.alloc (.cells #[.int .i64 r.f0, .int .i64 r.f1, .int .i64 a.f0, .int .i64 a.f1, .int .i64 a.f2, .int .i64 a.f3, .int .i64 a.f4.f0, .int .i64 a.f4.f1, .int .i64 a.f4.f2, .int .i64 a.f4.f3, .int .i64 a.f5, .int .i64 a.f6] 46) := ⟨_, rfl⟩
    have hb5 : Below w.heap.size w W5 := by rw [hW5]; exact HB4.out.alloc HB4.out.size _
    have hg5 : W5.heap[W4.heap.size]? = some (.cells #[.int .i64 r.f0, .int .i64 r.f1, .int .i64 a.f0, .int .i64 a.f1, .int .i64 a.f2, .int .i64 a.f3, .int .i64 a.f4.f0, .int .i64 a.f4.f1, .int .i64 a.f4.f2, .int .i64 a.f4.f3, .int .i64 a.f5, .int .i64 a.f6] 46 (0, 0)) := by rw [hW5]; exact heap_alloc_new _ _
    have hq5 := blk_below HQ1.out (show Below W4.heap.size W4 W5 by rw [hW5]; exact (Below.refl _ _).alloc (Nat.le_refl _) _)
    rw [← hW5]
    clear hW5 x0 x1 x2 x3 x4 x5 x6 x7 x8 x9 y0 yf0 y1 yf1 y2 yf2 y3 yf3 y4 yf4 y5 yf5 y6 yf6 y7 yf7 y8 yf8 y9 yf9 y10 yf10 y11 yf11 z0 z1 z2
    have z0 : W5.cell? ⟨W4.heap.size, 0, none⟩ = some (.int .i64 r.f0) := (blk_cell hg5 0).trans rfl
    have z1 : W5.cell? ⟨W4.heap.size, 1, none⟩ = some (.int .i64 r.f1) := (blk_cell hg5 1).trans rfl
    have z2 : W5.cell? ⟨W4.heap.size, 2, none⟩ = some (.int .i64 a.f0) := (blk_cell hg5 2).trans rfl
    have z3 : W5.cell? ⟨W4.heap.size, 3, none⟩ = some (.int .i64 a.f1) := (blk_cell hg5 3).trans rfl
    have z4 : W5.cell? ⟨W4.heap.size, 4, none⟩ = some (.int .i64 a.f2) := (blk_cell hg5 4).trans rfl
    have z5 : W5.cell? ⟨W4.heap.size, 5, none⟩ = some (.int .i64 a.f3) := (blk_cell hg5 5).trans rfl
    have z6 : W5.cell? ⟨W4.heap.size, 6, none⟩ = some (.int .i64 a.f4.f0) := (blk_cell hg5 6).trans rfl
    have z7 : W5.cell? ⟨W4.heap.size, 7, none⟩ = some (.int .i64 a.f4.f1) := (blk_cell hg5 7).trans rfl
    have z8 : W5.cell? ⟨W4.heap.size, 8, none⟩ = some (.int .i64 a.f4.f2) := (blk_cell hg5 8).trans rfl
    have z9 : W5.cell? ⟨W4.heap.size, 9, none⟩ = some (.int .i64 a.f4.f3) := (blk_cell hg5 9).trans rfl
    have z10 : W5.cell? ⟨W4.heap.size, 10, none⟩ = some (.int .i64 a.f5) := (blk_cell hg5 10).trans rfl
    have z11 : W5.cell? ⟨W4.heap.size, 11, none⟩ = some (.int .i64 a.f6) := (blk_cell hg5 11).trans rfl
    have HB5 := Lib.hid hb5
    have HG5 := Lib.hid hg5
    have HQ5 := Lib.hid hq5
    clear hb5 hg5 hq5
    go_upto_region 4 with (first | (go_at_call 38; go_loud ((with_reducible refine (HOUT.out _).mono ?_); rintro e' w6 ⟨rfl, hb6⟩; have hq6 := blk_below HG5.out hb6; have hz6 := blk_below HQ5.out hb6; have z0 : w6.cell? ⟨W4.heap.size, 0, none⟩ = some (.int .i64 r.f0) := (blk_cell hq6 0).trans rfl; have z1 : w6.cell? ⟨W4.heap.size, 1, none⟩ = some (.int .i64 r.f1) := (blk_cell hq6 1).trans rfl; have z2 : w6.cell? ⟨W4.heap.size, 2, none⟩ = some (.int .i64 a.f0) := (blk_cell hq6 2).trans rfl; have z3 : w6.cell? ⟨W4.heap.size, 3, none⟩ = some (.int .i64 a.f1) := (blk_cell hq6 3).trans rfl; have z4 : w6.cell? ⟨W4.heap.size, 4, none⟩ = some (.int .i64 a.f2) := (blk_cell hq6 4).trans rfl; have z5 : w6.cell? ⟨W4.heap.size, 5, none⟩ = some (.int .i64 a.f3) := (blk_cell hq6 5).trans rfl; have z6 : w6.cell? ⟨W4.heap.size, 6, none⟩ = some (.int .i64 a.f4.f0) := (blk_cell hq6 6).trans rfl; have z7 : w6.cell? ⟨W4.heap.size, 7, none⟩ = some (.int .i64 a.f4.f1) := (blk_cell hq6 7).trans rfl; have z8 : w6.cell? ⟨W4.heap.size, 8, none⟩ = some (.int .i64 a.f4.f2) := (blk_cell hq6 8).trans rfl; have z9 : w6.cell? ⟨W4.heap.size, 9, none⟩ = some (.int .i64 a.f4.f3) := (blk_cell hq6 9).trans rfl; have z10 : w6.cell? ⟨W4.heap.size, 10, none⟩ = some (.int .i64 a.f5) := (blk_cell hq6 10).trans rfl; have z11 : w6.cell? ⟨W4.heap.size, 11, none⟩ = some (.int .i64 a.f6) := (blk_cell hq6 11).trans rfl; have y0 : w6.cell? ⟨w.heap.size + 1, 0, none⟩ = some (.int .i64 0) := (blk_cell hz6 0).trans rfl; have yf0 := blk_frozen hz6 0; have y1 : w6.cell? ⟨w.heap.size + 1, 1, none⟩ = some (.int .i64 0) := (blk_cell hz6 1).trans rfl; have yf1 := blk_frozen hz6 1; have y2 : w6.cell? ⟨w.heap.size + 1, 2, none⟩ = some (.int .i64 0) := (blk_cell hz6 2).trans rfl; have yf2 := blk_frozen hz6 2; have y3 : w6.cell? ⟨w.heap.size + 1, 3, none⟩ = some (.int .i64 0) := (blk_cell hz6 3).trans rfl; have yf3 := blk_frozen hz6 3; have y4 : w6.cell? ⟨w.heap.size + 1, 4, none⟩ = some (.int .i64 0) := (blk_cell hz6 4).trans rfl; have yf4 := blk_frozen hz6 4; have y5 : w6.cell? ⟨w.heap.size + 1, 5, none⟩ = some (.int .i64 0) := (blk_cell hz6 5).trans rfl; have yf5 := blk_frozen hz6 5; have y6 : w6.cell? ⟨w.heap.size + 1, 6, none⟩ = some (.int .i64 0) := (blk_cell hz6 6).trans rfl; have yf6 := blk_frozen hz6 6; have y7 : w6.cell? ⟨w.heap.size + 1, 7, none⟩ = some (.int .i64 0) := (blk_cell hz6 7).trans rfl; have yf7 := blk_frozen hz6 7; have y8 : w6.cell? ⟨w.heap.size + 1, 8, none⟩ = some (.int .i64 0) := (blk_cell hz6 8).trans rfl; have yf8 := blk_frozen hz6 8; have y9 : w6.cell? ⟨w.heap.size + 1, 9, none⟩ = some (.int .i64 0) := (blk_cell hz6 9).trans rfl; have yf9 := blk_frozen hz6 9; have y10 : w6.cell? ⟨w.heap.size + 1, 10, none⟩ = some (.int .i64 0) := (blk_cell hz6 10).trans rfl; have yf10 := blk_frozen hz6 10; have y11 : w6.cell? ⟨w.heap.size + 1, 11, none⟩ = some (.int .i64 0) := (blk_cell hz6 11).trans rfl; have yf11 := blk_frozen hz6 11; have HQ6 := Lib.hid hz6; have HB6 := Lib.hid (HB5.out.trans (hb6.mono HB5.out.size)); clear hq6 hz6 hb6)))
    obtain ⟨W7, hW7⟩ : ∃ W, W = w6.alloc (.cells #[.int .i64 o.f0, .int .i64 o.f1, .string o.f2] 50) := ⟨_, rfl⟩
    have hb7 : Below w6.heap.size w6 W7 := by rw [hW7]; exact (Below.refl _ _).alloc (Nat.le_refl _) _
    have hq7 := blk_below HQ6.out hb7
    have HBZ := Lib.hid (HB6.out.trans (hb7.mono HB6.out.size))
    have xz_ := fun k v (h : w6.cell? ⟨W4.heap.size, k, none⟩ = some v) => below_cell hb7 h
    replace z0 := xz_ _ _ z0
    replace z1 := xz_ _ _ z1
    replace z2 := xz_ _ _ z2
    replace z3 := xz_ _ _ z3
    replace z4 := xz_ _ _ z4
    replace z5 := xz_ _ _ z5
    replace z6 := xz_ _ _ z6
    replace z7 := xz_ _ _ z7
    replace z8 := xz_ _ _ z8
    replace z9 := xz_ _ _ z9
    replace z10 := xz_ _ _ z10
    replace z11 := xz_ _ _ z11
    rw [← hW7]
    clear hW7 hb7 xz_ y0 yf0 y1 yf1 y2 yf2 y3 yf3 y4 yf4 y5 yf5 y6 yf6 y7 yf7 y8 yf8 y9 yf9 y10 yf10 y11 yf11
    have y0 : W7.cell? ⟨w.heap.size + 1, 0, none⟩ = some (.int .i64 0) := (blk_cell hq7 0).trans rfl
    have yf0 := blk_frozen hq7 0
    have y1 : W7.cell? ⟨w.heap.size + 1, 1, none⟩ = some (.int .i64 0) := (blk_cell hq7 1).trans rfl
    have yf1 := blk_frozen hq7 1
    have y2 : W7.cell? ⟨w.heap.size + 1, 2, none⟩ = some (.int .i64 0) := (blk_cell hq7 2).trans rfl
    have yf2 := blk_frozen hq7 2
    have y3 : W7.cell? ⟨w.heap.size + 1, 3, none⟩ = some (.int .i64 0) := (blk_cell hq7 3).trans rfl
    have yf3 := blk_frozen hq7 3
    have y4 : W7.cell? ⟨w.heap.size + 1, 4, none⟩ = some (.int .i64 0) := (blk_cell hq7 4).trans rfl
    have yf4 := blk_frozen hq7 4
    have y5 : W7.cell? ⟨w.heap.size + 1, 5, none⟩ = some (.int .i64 0) := (blk_cell hq7 5).trans rfl
    have yf5 := blk_frozen hq7 5
    have y6 : W7.cell? ⟨w.heap.size + 1, 6, none⟩ = some (.int .i64 0) := (blk_cell hq7 6).trans rfl
    have yf6 := blk_frozen hq7 6
    have y7 : W7.cell? ⟨w.heap.size + 1, 7, none⟩ = some (.int .i64 0) := (blk_cell hq7 7).trans rfl
    have yf7 := blk_frozen hq7 7
    have y8 : W7.cell? ⟨w.heap.size + 1, 8, none⟩ = some (.int .i64 0) := (blk_cell hq7 8).trans rfl
    have yf8 := blk_frozen hq7 8
    have y9 : W7.cell? ⟨w.heap.size + 1, 9, none⟩ = some (.int .i64 0) := (blk_cell hq7 9).trans rfl
    have yf9 := blk_frozen hq7 9
    have y10 : W7.cell? ⟨w.heap.size + 1, 10, none⟩ = some (.int .i64 0) := (blk_cell hq7 10).trans rfl
    have yf10 := blk_frozen hq7 10
    have y11 : W7.cell? ⟨w.heap.size + 1, 11, none⟩ = some (.int .i64 0) := (blk_cell hq7 11).trans rfl
    have yf11 := blk_frozen hq7 11
    have HQZ := Lib.hid hq7
    clear hq7
    go_wp2
    refine bodyPost_ret (results_ct' rfl _ _ (w.heap.size + 1) 46 #[.int .i64 0, .int .i64 0, .int .i64 0, .int .i64 0, .int .i64 0, .int .i64 0, .int .i64 0, .int .i64 0, .int .i64 0, .int .i64 0, .int .i64 0, .int .i64 0] (0, 0) _ rfl (put46_heap HQZ.out (.int .i64 0) (.int .i64 0) (.int .i64 0) (.int .i64 0) (.int .i64 0) (.int .i64 0) (.int .i64 0) (.int .i64 0) (.int .i64 0) (.int .i64 0) (.int .i64 0) (.int .i64 0)) Try.underlying46 rfl (by kernel_rfl)) rfl ?_
    have ho : inP r = (z46, 2) := if_neg (fun h => by rw [HD.out] at h; cases h.1)
    rw [ho]
    exact ⟨rfl, put46_below HBZ.out (Nat.le_succ _) (.int .i64 0) (.int .i64 0) (.int .i64 0) (.int .i64 0) (.int .i64 0) (.int .i64 0) (.int .i64 0) (.int .i64 0) (.int .i64 0) (.int .i64 0) (.int .i64 0) (.int .i64 0)⟩
set_option maxHeartbeats 8000000 in
set_option maxRecDepth 100000 in
theorem inRef_calls (r : S50) (hs : r.f2.size ≤ 1000000000) (w : World) :
    Calls Try.prog 41 #[.agg #[.int .i64 r.f0, .int .i64 r.f1, .string r.f2]] w fun e w' => e = .returned (.tuple #[cellV (inP r).1, .int .i64 (inP r).2]) ∧ Below w.heap.size w w' := by
  have hdec := fun w => decodeR_calls r.f2 w
  have hout := fun w => out_calls ⟨r.f0, r.f1, (decP r.f2).1⟩ (dec_R r.f2) w
  have hde := dec_e r.f2
  have hdb := dec_back r.f2
  obtain ⟨D, hD⟩ : ∃ D, decP r.f2 = D := ⟨_, rfl⟩
  rw [hD] at hdec hout hde hdb
  obtain ⟨a, e⟩ := D
  simp only at hdec hde hdb
  have HD := Lib.hid hD
  have HDB := Lib.hid hdb
  have hu := Try.underlying44
  have hu46 := Try.underlying46
  obtain ⟨W2, hW2⟩ : ∃ W, W = (w.alloc (.cells #[.int .i64 r.f0, .int .i64 r.f1, .string r.f2] 50)).alloc (.cells #[.int .i64 0, .int .i64 0, .int .i64 0, .int .i64 0, .int .i64 0, .int .i64 0, .int .i64 0, .int .i64 0, .int .i64 0, .int .i64 0, .int .i64 0, .int .i64 0] 46) := ⟨_, rfl⟩
  have h0 : W2.heap[w.heap.size]? = some (.cells #[.int .i64 r.f0, .int .i64 r.f1, .string r.f2] 50 (0, 0)) := by
    rw [hW2, Below.heap_alloc _ _ _ (by simp)]
    exact heap_alloc_new _ _
  have h1 : W2.heap[w.heap.size + 1]? = some (.cells #[.int .i64 0, .int .i64 0, .int .i64 0, .int .i64 0, .int .i64 0, .int .i64 0, .int .i64 0, .int .i64 0, .int .i64 0, .int .i64 0, .int .i64 0, .int .i64 0] 46 (0, 0)) := by
    rw [hW2]
    have := heap_alloc_new (w.alloc (.cells #[.int .i64 r.f0, .int .i64 r.f1, .string r.f2] 50)) (.cells #[.int .i64 0, .int .i64 0, .int .i64 0, .int .i64 0, .int .i64 0, .int .i64 0, .int .i64 0, .int .i64 0, .int .i64 0, .int .i64 0, .int .i64 0, .int .i64 0] 46)
    simpa using this
  have hb : Below w.heap.size w W2 := by rw [hW2]; exact below_alloc (below_alloc (Below.refl _ _) _) _
  have HB := Lib.hid hb
  have HW2 := Lib.hid hW2
  have H0 := Lib.hid h0
  have H1 := Lib.hid h1
  have HDEC := Lib.hid hdec
  have HOUT := Lib.hid hout
  clear hW2 h0 h1 hb hD hs hdec hout hdb
  clear HOUT
  rcases hde with rfl | rfl
  rotate_left
  · go_enter Try.func41, Try.ntmps41
    go_upto_region 1 with fail
    rw [← HW2.out]
    have z0 : W2.cell? ⟨w.heap.size, 0, none⟩ = some (.int .i64 r.f0) := (blk_cell H0.out 0).trans rfl
    have z1 : W2.cell? ⟨w.heap.size, 1, none⟩ = some (.int .i64 r.f1) := (blk_cell H0.out 1).trans rfl
    have z2 : W2.cell? ⟨w.heap.size, 2, none⟩ = some (.string r.f2) := (blk_cell H0.out 2).trans rfl
    go_upto_region 2 with (first | (go_at_call 75; go_loud ((with_reducible refine (HDEC.out _).mono ?_); rintro e' w3 ⟨rfl, hb3⟩; have hq0 := blk_below H0.out hb3; have hq1 := blk_below H1.out hb3; have z0 : w3.cell? ⟨w.heap.size, 0, none⟩ = some (.int .i64 r.f0) := (blk_cell hq0 0).trans rfl; have z1 : w3.cell? ⟨w.heap.size, 1, none⟩ = some (.int .i64 r.f1) := (blk_cell hq0 1).trans rfl; have z2 : w3.cell? ⟨w.heap.size, 2, none⟩ = some (.string r.f2) := (blk_cell hq0 2).trans rfl; have y0 : w3.cell? ⟨w.heap.size + 1, 0, none⟩ = some (.int .i64 0) := (blk_cell hq1 0).trans rfl; have yf0 := blk_frozen hq1 0; have y1 : w3.cell? ⟨w.heap.size + 1, 1, none⟩ = some (.int .i64 0) := (blk_cell hq1 1).trans rfl; have yf1 := blk_frozen hq1 1; have y2 : w3.cell? ⟨w.heap.size + 1, 2, none⟩ = some (.int .i64 0) := (blk_cell hq1 2).trans rfl; have yf2 := blk_frozen hq1 2; have y3 : w3.cell? ⟨w.heap.size + 1, 3, none⟩ = some (.int .i64 0) := (blk_cell hq1 3).trans rfl; have yf3 := blk_frozen hq1 3; have y4 : w3.cell? ⟨w.heap.size + 1, 4, none⟩ = some (.int .i64 0) := (blk_cell hq1 4).trans rfl; have yf4 := blk_frozen hq1 4; have y5 : w3.cell? ⟨w.heap.size + 1, 5, none⟩ = some (.int .i64 0) := (blk_cell hq1 5).trans rfl; have yf5 := blk_frozen hq1 5; have y6 : w3.cell? ⟨w.heap.size + 1, 6, none⟩ = some (.int .i64 0) := (blk_cell hq1 6).trans rfl; have yf6 := blk_frozen hq1 6; have y7 : w3.cell? ⟨w.heap.size + 1, 7, none⟩ = some (.int .i64 0) := (blk_cell hq1 7).trans rfl; have yf7 := blk_frozen hq1 7; have y8 : w3.cell? ⟨w.heap.size + 1, 8, none⟩ = some (.int .i64 0) := (blk_cell hq1 8).trans rfl; have yf8 := blk_frozen hq1 8; have y9 : w3.cell? ⟨w.heap.size + 1, 9, none⟩ = some (.int .i64 0) := (blk_cell hq1 9).trans rfl; have yf9 := blk_frozen hq1 9; have y10 : w3.cell? ⟨w.heap.size + 1, 10, none⟩ = some (.int .i64 0) := (blk_cell hq1 10).trans rfl; have yf10 := blk_frozen hq1 10; have y11 : w3.cell? ⟨w.heap.size + 1, 11, none⟩ = some (.int .i64 0) := (blk_cell hq1 11).trans rfl; have yf11 := blk_frozen hq1 11; have HQ1 := Lib.hid hq1; have HB3 := Lib.hid hb3; clear hq0 hq1 hb3)))
    obtain ⟨W4, hW4⟩ : ∃ W, W = w3.alloc (.cells #[.int .i64 a.f0, .int .i64 a.f1, .int .i64 a.f2, .int .i64 a.f3, .int .i64 a.f4.f0, .int .i64 a.f4.f1, .int .i64 a.f4.f2, .int .i64 a.f4.f3, .int .i64 a.f5, .int .i64 a.f6] 44) := ⟨_, rfl⟩
    have hb4 : Below W2.heap.size W2 W4 := by rw [hW4]; exact HB3.out.alloc HB3.out.size _
    have hg4 : W4.heap[w3.heap.size]? = some (.cells #[.int .i64 a.f0, .int .i64 a.f1, .int .i64 a.f2, .int .i64 a.f3, .int .i64 a.f4.f0, .int .i64 a.f4.f1, .int .i64 a.f4.f2, .int .i64 a.f4.f3, .int .i64 a.f5, .int .i64 a.f6] 44 (0, 0)) := by rw [hW4]; exact heap_alloc_new _ _
    rw [← hW4]
    clear hW4 HQ1
    have hq0 := blk_below H0.out hb4
    have hq1 := blk_below H1.out hb4
    have z0 : W4.cell? ⟨w.heap.size, 0, none⟩ = some (.int .i64 r.f0) := (blk_cell hq0 0).trans rfl
    have z1 : W4.cell? ⟨w.heap.size, 1, none⟩ = some (.int .i64 r.f1) := (blk_cell hq0 1).trans rfl
    have z2 : W4.cell? ⟨w.heap.size, 2, none⟩ = some (.string r.f2) := (blk_cell hq0 2).trans rfl
    have y0 : W4.cell? ⟨w.heap.size + 1, 0, none⟩ = some (.int .i64 0) := (blk_cell hq1 0).trans rfl
    have yf0 := blk_frozen hq1 0
    have y1 : W4.cell? ⟨w.heap.size + 1, 1, none⟩ = some (.int .i64 0) := (blk_cell hq1 1).trans rfl
    have yf1 := blk_frozen hq1 1
    have y2 : W4.cell? ⟨w.heap.size + 1, 2, none⟩ = some (.int .i64 0) := (blk_cell hq1 2).trans rfl
    have yf2 := blk_frozen hq1 2
    have y3 : W4.cell? ⟨w.heap.size + 1, 3, none⟩ = some (.int .i64 0) := (blk_cell hq1 3).trans rfl
    have yf3 := blk_frozen hq1 3
    have y4 : W4.cell? ⟨w.heap.size + 1, 4, none⟩ = some (.int .i64 0) := (blk_cell hq1 4).trans rfl
    have yf4 := blk_frozen hq1 4
    have y5 : W4.cell? ⟨w.heap.size + 1, 5, none⟩ = some (.int .i64 0) := (blk_cell hq1 5).trans rfl
    have yf5 := blk_frozen hq1 5
    have y6 : W4.cell? ⟨w.heap.size + 1, 6, none⟩ = some (.int .i64 0) := (blk_cell hq1 6).trans rfl
    have yf6 := blk_frozen hq1 6
    have y7 : W4.cell? ⟨w.heap.size + 1, 7, none⟩ = some (.int .i64 0) := (blk_cell hq1 7).trans rfl
    have yf7 := blk_frozen hq1 7
    have y8 : W4.cell? ⟨w.heap.size + 1, 8, none⟩ = some (.int .i64 0) := (blk_cell hq1 8).trans rfl
    have yf8 := blk_frozen hq1 8
    have y9 : W4.cell? ⟨w.heap.size + 1, 9, none⟩ = some (.int .i64 0) := (blk_cell hq1 9).trans rfl
    have yf9 := blk_frozen hq1 9
    have y10 : W4.cell? ⟨w.heap.size + 1, 10, none⟩ = some (.int .i64 0) := (blk_cell hq1 10).trans rfl
    have yf10 := blk_frozen hq1 10
    have y11 : W4.cell? ⟨w.heap.size + 1, 11, none⟩ = some (.int .i64 0) := (blk_cell hq1 11).trans rfl
    have yf11 := blk_frozen hq1 11
    have x0 : W4.cell? ⟨w3.heap.size, 0, none⟩ = some (.int .i64 a.f0) := (blk_cell hg4 0).trans rfl
    have x1 : W4.cell? ⟨w3.heap.size, 1, none⟩ = some (.int .i64 a.f1) := (blk_cell hg4 1).trans rfl
    have x2 : W4.cell? ⟨w3.heap.size, 2, none⟩ = some (.int .i64 a.f2) := (blk_cell hg4 2).trans rfl
    have x3 : W4.cell? ⟨w3.heap.size, 3, none⟩ = some (.int .i64 a.f3) := (blk_cell hg4 3).trans rfl
    have x4 : W4.cell? ⟨w3.heap.size, 4, none⟩ = some (.int .i64 a.f4.f0) := (blk_cell hg4 4).trans rfl
    have x5 : W4.cell? ⟨w3.heap.size, 5, none⟩ = some (.int .i64 a.f4.f1) := (blk_cell hg4 5).trans rfl
    have x6 : W4.cell? ⟨w3.heap.size, 6, none⟩ = some (.int .i64 a.f4.f2) := (blk_cell hg4 6).trans rfl
    have x7 : W4.cell? ⟨w3.heap.size, 7, none⟩ = some (.int .i64 a.f4.f3) := (blk_cell hg4 7).trans rfl
    have x8 : W4.cell? ⟨w3.heap.size, 8, none⟩ = some (.int .i64 a.f5) := (blk_cell hg4 8).trans rfl
    have x9 : W4.cell? ⟨w3.heap.size, 9, none⟩ = some (.int .i64 a.f6) := (blk_cell hg4 9).trans rfl
    have HQ1 := Lib.hid hq1
    have HB4 := Lib.hid (HB.out.trans (hb4.mono HB.out.size))
    have HG4 := Lib.hid hg4
    clear hq0 hq1 hb4 hg4
    have HQZ := HQ1
    have HBZ := HB4
    go_wp2
    refine bodyPost_ret (results_ct' rfl _ _ (w.heap.size + 1) 46 #[.int .i64 0, .int .i64 0, .int .i64 0, .int .i64 0, .int .i64 0, .int .i64 0, .int .i64 0, .int .i64 0, .int .i64 0, .int .i64 0, .int .i64 0, .int .i64 0] (0, 0) _ rfl (put46_heap HQZ.out (.int .i64 0) (.int .i64 0) (.int .i64 0) (.int .i64 0) (.int .i64 0) (.int .i64 0) (.int .i64 0) (.int .i64 0) (.int .i64 0) (.int .i64 0) (.int .i64 0) (.int .i64 0)) Try.underlying46 rfl (by kernel_rfl)) rfl ?_
    have ho : inP r = (z46, 2) := if_neg (fun h => by rw [HD.out] at h; cases h.1)
    rw [ho]
    exact ⟨rfl, put46_below HBZ.out (Nat.le_succ _) (.int .i64 0) (.int .i64 0) (.int .i64 0) (.int .i64 0) (.int .i64 0) (.int .i64 0) (.int .i64 0) (.int .i64 0) (.int .i64 0) (.int .i64 0) (.int .i64 0) (.int .i64 0)⟩
  by_cases k0 : r.f0 < 0
  · have d0 : decide (r.f0 < 0) = true := decide_eq_true k0
    go_enter Try.func41, Try.ntmps41
    go_upto_region 1 with fail
    rw [← HW2.out]
    have z0 : W2.cell? ⟨w.heap.size, 0, none⟩ = some (.int .i64 r.f0) := (blk_cell H0.out 0).trans rfl
    have z1 : W2.cell? ⟨w.heap.size, 1, none⟩ = some (.int .i64 r.f1) := (blk_cell H0.out 1).trans rfl
    have z2 : W2.cell? ⟨w.heap.size, 2, none⟩ = some (.string r.f2) := (blk_cell H0.out 2).trans rfl
    go_upto_region 2 with (first | (go_at_call 75; go_loud ((with_reducible refine (HDEC.out _).mono ?_); rintro e' w3 ⟨rfl, hb3⟩; have hq0 := blk_below H0.out hb3; have hq1 := blk_below H1.out hb3; have z0 : w3.cell? ⟨w.heap.size, 0, none⟩ = some (.int .i64 r.f0) := (blk_cell hq0 0).trans rfl; have z1 : w3.cell? ⟨w.heap.size, 1, none⟩ = some (.int .i64 r.f1) := (blk_cell hq0 1).trans rfl; have z2 : w3.cell? ⟨w.heap.size, 2, none⟩ = some (.string r.f2) := (blk_cell hq0 2).trans rfl; have y0 : w3.cell? ⟨w.heap.size + 1, 0, none⟩ = some (.int .i64 0) := (blk_cell hq1 0).trans rfl; have yf0 := blk_frozen hq1 0; have y1 : w3.cell? ⟨w.heap.size + 1, 1, none⟩ = some (.int .i64 0) := (blk_cell hq1 1).trans rfl; have yf1 := blk_frozen hq1 1; have y2 : w3.cell? ⟨w.heap.size + 1, 2, none⟩ = some (.int .i64 0) := (blk_cell hq1 2).trans rfl; have yf2 := blk_frozen hq1 2; have y3 : w3.cell? ⟨w.heap.size + 1, 3, none⟩ = some (.int .i64 0) := (blk_cell hq1 3).trans rfl; have yf3 := blk_frozen hq1 3; have y4 : w3.cell? ⟨w.heap.size + 1, 4, none⟩ = some (.int .i64 0) := (blk_cell hq1 4).trans rfl; have yf4 := blk_frozen hq1 4; have y5 : w3.cell? ⟨w.heap.size + 1, 5, none⟩ = some (.int .i64 0) := (blk_cell hq1 5).trans rfl; have yf5 := blk_frozen hq1 5; have y6 : w3.cell? ⟨w.heap.size + 1, 6, none⟩ = some (.int .i64 0) := (blk_cell hq1 6).trans rfl; have yf6 := blk_frozen hq1 6; have y7 : w3.cell? ⟨w.heap.size + 1, 7, none⟩ = some (.int .i64 0) := (blk_cell hq1 7).trans rfl; have yf7 := blk_frozen hq1 7; have y8 : w3.cell? ⟨w.heap.size + 1, 8, none⟩ = some (.int .i64 0) := (blk_cell hq1 8).trans rfl; have yf8 := blk_frozen hq1 8; have y9 : w3.cell? ⟨w.heap.size + 1, 9, none⟩ = some (.int .i64 0) := (blk_cell hq1 9).trans rfl; have yf9 := blk_frozen hq1 9; have y10 : w3.cell? ⟨w.heap.size + 1, 10, none⟩ = some (.int .i64 0) := (blk_cell hq1 10).trans rfl; have yf10 := blk_frozen hq1 10; have y11 : w3.cell? ⟨w.heap.size + 1, 11, none⟩ = some (.int .i64 0) := (blk_cell hq1 11).trans rfl; have yf11 := blk_frozen hq1 11; have HQ1 := Lib.hid hq1; have HB3 := Lib.hid hb3; clear hq0 hq1 hb3)))
    obtain ⟨W4, hW4⟩ : ∃ W, W = w3.alloc (.cells #[.int .i64 a.f0, .int .i64 a.f1, .int .i64 a.f2, .int .i64 a.f3, .int .i64 a.f4.f0, .int .i64 a.f4.f1, .int .i64 a.f4.f2, .int .i64 a.f4.f3, .int .i64 a.f5, .int .i64 a.f6] 44) := ⟨_, rfl⟩
    have hb4 : Below W2.heap.size W2 W4 := by rw [hW4]; exact HB3.out.alloc HB3.out.size _
    have hg4 : W4.heap[w3.heap.size]? = some (.cells #[.int .i64 a.f0, .int .i64 a.f1, .int .i64 a.f2, .int .i64 a.f3, .int .i64 a.f4.f0, .int .i64 a.f4.f1, .int .i64 a.f4.f2, .int .i64 a.f4.f3, .int .i64 a.f5, .int .i64 a.f6] 44 (0, 0)) := by rw [hW4]; exact heap_alloc_new _ _
    rw [← hW4]
    clear hW4 HQ1
    have hq0 := blk_below H0.out hb4
    have hq1 := blk_below H1.out hb4
    have z0 : W4.cell? ⟨w.heap.size, 0, none⟩ = some (.int .i64 r.f0) := (blk_cell hq0 0).trans rfl
    have z1 : W4.cell? ⟨w.heap.size, 1, none⟩ = some (.int .i64 r.f1) := (blk_cell hq0 1).trans rfl
    have z2 : W4.cell? ⟨w.heap.size, 2, none⟩ = some (.string r.f2) := (blk_cell hq0 2).trans rfl
    have y0 : W4.cell? ⟨w.heap.size + 1, 0, none⟩ = some (.int .i64 0) := (blk_cell hq1 0).trans rfl
    have yf0 := blk_frozen hq1 0
    have y1 : W4.cell? ⟨w.heap.size + 1, 1, none⟩ = some (.int .i64 0) := (blk_cell hq1 1).trans rfl
    have yf1 := blk_frozen hq1 1
    have y2 : W4.cell? ⟨w.heap.size + 1, 2, none⟩ = some (.int .i64 0) := (blk_cell hq1 2).trans rfl
    have yf2 := blk_frozen hq1 2
    have y3 : W4.cell? ⟨w.heap.size + 1, 3, none⟩ = some (.int .i64 0) := (blk_cell hq1 3).trans rfl
    have yf3 := blk_frozen hq1 3
    have y4 : W4.cell? ⟨w.heap.size + 1, 4, none⟩ = some (.int .i64 0) := (blk_cell hq1 4).trans rfl
    have yf4 := blk_frozen hq1 4
    have y5 : W4.cell? ⟨w.heap.size + 1, 5, none⟩ = some (.int .i64 0) := (blk_cell hq1 5).trans rfl
    have yf5 := blk_frozen hq1 5
    have y6 : W4.cell? ⟨w.heap.size + 1, 6, none⟩ = some (.int .i64 0) := (blk_cell hq1 6).trans rfl
    have yf6 := blk_frozen hq1 6
    have y7 : W4.cell? ⟨w.heap.size + 1, 7, none⟩ = some (.int .i64 0) := (blk_cell hq1 7).trans rfl
    have yf7 := blk_frozen hq1 7
    have y8 : W4.cell? ⟨w.heap.size + 1, 8, none⟩ = some (.int .i64 0) := (blk_cell hq1 8).trans rfl
    have yf8 := blk_frozen hq1 8
    have y9 : W4.cell? ⟨w.heap.size + 1, 9, none⟩ = some (.int .i64 0) := (blk_cell hq1 9).trans rfl
    have yf9 := blk_frozen hq1 9
    have y10 : W4.cell? ⟨w.heap.size + 1, 10, none⟩ = some (.int .i64 0) := (blk_cell hq1 10).trans rfl
    have yf10 := blk_frozen hq1 10
    have y11 : W4.cell? ⟨w.heap.size + 1, 11, none⟩ = some (.int .i64 0) := (blk_cell hq1 11).trans rfl
    have yf11 := blk_frozen hq1 11
    have x0 : W4.cell? ⟨w3.heap.size, 0, none⟩ = some (.int .i64 a.f0) := (blk_cell hg4 0).trans rfl
    have x1 : W4.cell? ⟨w3.heap.size, 1, none⟩ = some (.int .i64 a.f1) := (blk_cell hg4 1).trans rfl
    have x2 : W4.cell? ⟨w3.heap.size, 2, none⟩ = some (.int .i64 a.f2) := (blk_cell hg4 2).trans rfl
    have x3 : W4.cell? ⟨w3.heap.size, 3, none⟩ = some (.int .i64 a.f3) := (blk_cell hg4 3).trans rfl
    have x4 : W4.cell? ⟨w3.heap.size, 4, none⟩ = some (.int .i64 a.f4.f0) := (blk_cell hg4 4).trans rfl
    have x5 : W4.cell? ⟨w3.heap.size, 5, none⟩ = some (.int .i64 a.f4.f1) := (blk_cell hg4 5).trans rfl
    have x6 : W4.cell? ⟨w3.heap.size, 6, none⟩ = some (.int .i64 a.f4.f2) := (blk_cell hg4 6).trans rfl
    have x7 : W4.cell? ⟨w3.heap.size, 7, none⟩ = some (.int .i64 a.f4.f3) := (blk_cell hg4 7).trans rfl
    have x8 : W4.cell? ⟨w3.heap.size, 8, none⟩ = some (.int .i64 a.f5) := (blk_cell hg4 8).trans rfl
    have x9 : W4.cell? ⟨w3.heap.size, 9, none⟩ = some (.int .i64 a.f6) := (blk_cell hg4 9).trans rfl
    have HQ1 := Lib.hid hq1
    have HB4 := Lib.hid (HB.out.trans (hb4.mono HB.out.size))
    have HG4 := Lib.hid hg4
    clear hq0 hq1 hb4 hg4
    have HQZ := HQ1
    have HBZ := HB4
    go_wp2
    refine bodyPost_ret (results_ct' rfl _ _ (w.heap.size + 1) 46 #[.int .i64 0, .int .i64 0, .int .i64 0, .int .i64 0, .int .i64 0, .int .i64 0, .int .i64 0, .int .i64 0, .int .i64 0, .int .i64 0, .int .i64 0, .int .i64 0] (0, 0) _ rfl (put46_heap HQZ.out (.int .i64 0) (.int .i64 0) (.int .i64 0) (.int .i64 0) (.int .i64 0) (.int .i64 0) (.int .i64 0) (.int .i64 0) (.int .i64 0) (.int .i64 0) (.int .i64 0) (.int .i64 0)) Try.underlying46 rfl (by kernel_rfl)) rfl ?_
    have ho : inP r = (z46, 2) := if_neg (fun h => by have h2 := of_decide_eq_true h.2; omega)
    rw [ho]
    exact ⟨rfl, put46_below HBZ.out (Nat.le_succ _) (.int .i64 0) (.int .i64 0) (.int .i64 0) (.int .i64 0) (.int .i64 0) (.int .i64 0) (.int .i64 0) (.int .i64 0) (.int .i64 0) (.int .i64 0) (.int .i64 0) (.int .i64 0)⟩
  have d0 : decide (r.f0 < 0) = false := decide_eq_false k0
  by_cases k1 : 1048576 < r.f0
  · have d1 : decide (1048576 < r.f0) = true := decide_eq_true k1
    go_enter Try.func41, Try.ntmps41
    go_upto_region 1 with fail
    rw [← HW2.out]
    have z0 : W2.cell? ⟨w.heap.size, 0, none⟩ = some (.int .i64 r.f0) := (blk_cell H0.out 0).trans rfl
    have z1 : W2.cell? ⟨w.heap.size, 1, none⟩ = some (.int .i64 r.f1) := (blk_cell H0.out 1).trans rfl
    have z2 : W2.cell? ⟨w.heap.size, 2, none⟩ = some (.string r.f2) := (blk_cell H0.out 2).trans rfl
    go_upto_region 2 with (first | (go_at_call 75; go_loud ((with_reducible refine (HDEC.out _).mono ?_); rintro e' w3 ⟨rfl, hb3⟩; have hq0 := blk_below H0.out hb3; have hq1 := blk_below H1.out hb3; have z0 : w3.cell? ⟨w.heap.size, 0, none⟩ = some (.int .i64 r.f0) := (blk_cell hq0 0).trans rfl; have z1 : w3.cell? ⟨w.heap.size, 1, none⟩ = some (.int .i64 r.f1) := (blk_cell hq0 1).trans rfl; have z2 : w3.cell? ⟨w.heap.size, 2, none⟩ = some (.string r.f2) := (blk_cell hq0 2).trans rfl; have y0 : w3.cell? ⟨w.heap.size + 1, 0, none⟩ = some (.int .i64 0) := (blk_cell hq1 0).trans rfl; have yf0 := blk_frozen hq1 0; have y1 : w3.cell? ⟨w.heap.size + 1, 1, none⟩ = some (.int .i64 0) := (blk_cell hq1 1).trans rfl; have yf1 := blk_frozen hq1 1; have y2 : w3.cell? ⟨w.heap.size + 1, 2, none⟩ = some (.int .i64 0) := (blk_cell hq1 2).trans rfl; have yf2 := blk_frozen hq1 2; have y3 : w3.cell? ⟨w.heap.size + 1, 3, none⟩ = some (.int .i64 0) := (blk_cell hq1 3).trans rfl; have yf3 := blk_frozen hq1 3; have y4 : w3.cell? ⟨w.heap.size + 1, 4, none⟩ = some (.int .i64 0) := (blk_cell hq1 4).trans rfl; have yf4 := blk_frozen hq1 4; have y5 : w3.cell? ⟨w.heap.size + 1, 5, none⟩ = some (.int .i64 0) := (blk_cell hq1 5).trans rfl; have yf5 := blk_frozen hq1 5; have y6 : w3.cell? ⟨w.heap.size + 1, 6, none⟩ = some (.int .i64 0) := (blk_cell hq1 6).trans rfl; have yf6 := blk_frozen hq1 6; have y7 : w3.cell? ⟨w.heap.size + 1, 7, none⟩ = some (.int .i64 0) := (blk_cell hq1 7).trans rfl; have yf7 := blk_frozen hq1 7; have y8 : w3.cell? ⟨w.heap.size + 1, 8, none⟩ = some (.int .i64 0) := (blk_cell hq1 8).trans rfl; have yf8 := blk_frozen hq1 8; have y9 : w3.cell? ⟨w.heap.size + 1, 9, none⟩ = some (.int .i64 0) := (blk_cell hq1 9).trans rfl; have yf9 := blk_frozen hq1 9; have y10 : w3.cell? ⟨w.heap.size + 1, 10, none⟩ = some (.int .i64 0) := (blk_cell hq1 10).trans rfl; have yf10 := blk_frozen hq1 10; have y11 : w3.cell? ⟨w.heap.size + 1, 11, none⟩ = some (.int .i64 0) := (blk_cell hq1 11).trans rfl; have yf11 := blk_frozen hq1 11; have HQ1 := Lib.hid hq1; have HB3 := Lib.hid hb3; clear hq0 hq1 hb3)))
    obtain ⟨W4, hW4⟩ : ∃ W, W = w3.alloc (.cells #[.int .i64 a.f0, .int .i64 a.f1, .int .i64 a.f2, .int .i64 a.f3, .int .i64 a.f4.f0, .int .i64 a.f4.f1, .int .i64 a.f4.f2, .int .i64 a.f4.f3, .int .i64 a.f5, .int .i64 a.f6] 44) := ⟨_, rfl⟩
    have hb4 : Below W2.heap.size W2 W4 := by rw [hW4]; exact HB3.out.alloc HB3.out.size _
    have hg4 : W4.heap[w3.heap.size]? = some (.cells #[.int .i64 a.f0, .int .i64 a.f1, .int .i64 a.f2, .int .i64 a.f3, .int .i64 a.f4.f0, .int .i64 a.f4.f1, .int .i64 a.f4.f2, .int .i64 a.f4.f3, .int .i64 a.f5, .int .i64 a.f6] 44 (0, 0)) := by rw [hW4]; exact heap_alloc_new _ _
    rw [← hW4]
    clear hW4 HQ1
    have hq0 := blk_below H0.out hb4
    have hq1 := blk_below H1.out hb4
    have z0 : W4.cell? ⟨w.heap.size, 0, none⟩ = some (.int .i64 r.f0) := (blk_cell hq0 0).trans rfl
    have z1 : W4.cell? ⟨w.heap.size, 1, none⟩ = some (.int .i64 r.f1) := (blk_cell hq0 1).trans rfl
    have z2 : W4.cell? ⟨w.heap.size, 2, none⟩ = some (.string r.f2) := (blk_cell hq0 2).trans rfl
    have y0 : W4.cell? ⟨w.heap.size + 1, 0, none⟩ = some (.int .i64 0) := (blk_cell hq1 0).trans rfl
    have yf0 := blk_frozen hq1 0
    have y1 : W4.cell? ⟨w.heap.size + 1, 1, none⟩ = some (.int .i64 0) := (blk_cell hq1 1).trans rfl
    have yf1 := blk_frozen hq1 1
    have y2 : W4.cell? ⟨w.heap.size + 1, 2, none⟩ = some (.int .i64 0) := (blk_cell hq1 2).trans rfl
    have yf2 := blk_frozen hq1 2
    have y3 : W4.cell? ⟨w.heap.size + 1, 3, none⟩ = some (.int .i64 0) := (blk_cell hq1 3).trans rfl
    have yf3 := blk_frozen hq1 3
    have y4 : W4.cell? ⟨w.heap.size + 1, 4, none⟩ = some (.int .i64 0) := (blk_cell hq1 4).trans rfl
    have yf4 := blk_frozen hq1 4
    have y5 : W4.cell? ⟨w.heap.size + 1, 5, none⟩ = some (.int .i64 0) := (blk_cell hq1 5).trans rfl
    have yf5 := blk_frozen hq1 5
    have y6 : W4.cell? ⟨w.heap.size + 1, 6, none⟩ = some (.int .i64 0) := (blk_cell hq1 6).trans rfl
    have yf6 := blk_frozen hq1 6
    have y7 : W4.cell? ⟨w.heap.size + 1, 7, none⟩ = some (.int .i64 0) := (blk_cell hq1 7).trans rfl
    have yf7 := blk_frozen hq1 7
    have y8 : W4.cell? ⟨w.heap.size + 1, 8, none⟩ = some (.int .i64 0) := (blk_cell hq1 8).trans rfl
    have yf8 := blk_frozen hq1 8
    have y9 : W4.cell? ⟨w.heap.size + 1, 9, none⟩ = some (.int .i64 0) := (blk_cell hq1 9).trans rfl
    have yf9 := blk_frozen hq1 9
    have y10 : W4.cell? ⟨w.heap.size + 1, 10, none⟩ = some (.int .i64 0) := (blk_cell hq1 10).trans rfl
    have yf10 := blk_frozen hq1 10
    have y11 : W4.cell? ⟨w.heap.size + 1, 11, none⟩ = some (.int .i64 0) := (blk_cell hq1 11).trans rfl
    have yf11 := blk_frozen hq1 11
    have x0 : W4.cell? ⟨w3.heap.size, 0, none⟩ = some (.int .i64 a.f0) := (blk_cell hg4 0).trans rfl
    have x1 : W4.cell? ⟨w3.heap.size, 1, none⟩ = some (.int .i64 a.f1) := (blk_cell hg4 1).trans rfl
    have x2 : W4.cell? ⟨w3.heap.size, 2, none⟩ = some (.int .i64 a.f2) := (blk_cell hg4 2).trans rfl
    have x3 : W4.cell? ⟨w3.heap.size, 3, none⟩ = some (.int .i64 a.f3) := (blk_cell hg4 3).trans rfl
    have x4 : W4.cell? ⟨w3.heap.size, 4, none⟩ = some (.int .i64 a.f4.f0) := (blk_cell hg4 4).trans rfl
    have x5 : W4.cell? ⟨w3.heap.size, 5, none⟩ = some (.int .i64 a.f4.f1) := (blk_cell hg4 5).trans rfl
    have x6 : W4.cell? ⟨w3.heap.size, 6, none⟩ = some (.int .i64 a.f4.f2) := (blk_cell hg4 6).trans rfl
    have x7 : W4.cell? ⟨w3.heap.size, 7, none⟩ = some (.int .i64 a.f4.f3) := (blk_cell hg4 7).trans rfl
    have x8 : W4.cell? ⟨w3.heap.size, 8, none⟩ = some (.int .i64 a.f5) := (blk_cell hg4 8).trans rfl
    have x9 : W4.cell? ⟨w3.heap.size, 9, none⟩ = some (.int .i64 a.f6) := (blk_cell hg4 9).trans rfl
    have HQ1 := Lib.hid hq1
    have HB4 := Lib.hid (HB.out.trans (hb4.mono HB.out.size))
    have HG4 := Lib.hid hg4
    clear hq0 hq1 hb4 hg4
    have HQZ := HQ1
    have HBZ := HB4
    go_wp2
    refine bodyPost_ret (results_ct' rfl _ _ (w.heap.size + 1) 46 #[.int .i64 0, .int .i64 0, .int .i64 0, .int .i64 0, .int .i64 0, .int .i64 0, .int .i64 0, .int .i64 0, .int .i64 0, .int .i64 0, .int .i64 0, .int .i64 0] (0, 0) _ rfl (put46_heap HQZ.out (.int .i64 0) (.int .i64 0) (.int .i64 0) (.int .i64 0) (.int .i64 0) (.int .i64 0) (.int .i64 0) (.int .i64 0) (.int .i64 0) (.int .i64 0) (.int .i64 0) (.int .i64 0)) Try.underlying46 rfl (by kernel_rfl)) rfl ?_
    have ho : inP r = (z46, 2) := if_neg (fun h => by have h2 := of_decide_eq_true h.2; omega)
    rw [ho]
    exact ⟨rfl, put46_below HBZ.out (Nat.le_succ _) (.int .i64 0) (.int .i64 0) (.int .i64 0) (.int .i64 0) (.int .i64 0) (.int .i64 0) (.int .i64 0) (.int .i64 0) (.int .i64 0) (.int .i64 0) (.int .i64 0) (.int .i64 0)⟩
  have d1 : decide (1048576 < r.f0) = false := decide_eq_false k1
  by_cases k2 : r.f1 < 0
  · have d2 : decide (r.f1 < 0) = true := decide_eq_true k2
    go_enter Try.func41, Try.ntmps41
    go_upto_region 1 with fail
    rw [← HW2.out]
    have z0 : W2.cell? ⟨w.heap.size, 0, none⟩ = some (.int .i64 r.f0) := (blk_cell H0.out 0).trans rfl
    have z1 : W2.cell? ⟨w.heap.size, 1, none⟩ = some (.int .i64 r.f1) := (blk_cell H0.out 1).trans rfl
    have z2 : W2.cell? ⟨w.heap.size, 2, none⟩ = some (.string r.f2) := (blk_cell H0.out 2).trans rfl
    go_upto_region 2 with (first | (go_at_call 75; go_loud ((with_reducible refine (HDEC.out _).mono ?_); rintro e' w3 ⟨rfl, hb3⟩; have hq0 := blk_below H0.out hb3; have hq1 := blk_below H1.out hb3; have z0 : w3.cell? ⟨w.heap.size, 0, none⟩ = some (.int .i64 r.f0) := (blk_cell hq0 0).trans rfl; have z1 : w3.cell? ⟨w.heap.size, 1, none⟩ = some (.int .i64 r.f1) := (blk_cell hq0 1).trans rfl; have z2 : w3.cell? ⟨w.heap.size, 2, none⟩ = some (.string r.f2) := (blk_cell hq0 2).trans rfl; have y0 : w3.cell? ⟨w.heap.size + 1, 0, none⟩ = some (.int .i64 0) := (blk_cell hq1 0).trans rfl; have yf0 := blk_frozen hq1 0; have y1 : w3.cell? ⟨w.heap.size + 1, 1, none⟩ = some (.int .i64 0) := (blk_cell hq1 1).trans rfl; have yf1 := blk_frozen hq1 1; have y2 : w3.cell? ⟨w.heap.size + 1, 2, none⟩ = some (.int .i64 0) := (blk_cell hq1 2).trans rfl; have yf2 := blk_frozen hq1 2; have y3 : w3.cell? ⟨w.heap.size + 1, 3, none⟩ = some (.int .i64 0) := (blk_cell hq1 3).trans rfl; have yf3 := blk_frozen hq1 3; have y4 : w3.cell? ⟨w.heap.size + 1, 4, none⟩ = some (.int .i64 0) := (blk_cell hq1 4).trans rfl; have yf4 := blk_frozen hq1 4; have y5 : w3.cell? ⟨w.heap.size + 1, 5, none⟩ = some (.int .i64 0) := (blk_cell hq1 5).trans rfl; have yf5 := blk_frozen hq1 5; have y6 : w3.cell? ⟨w.heap.size + 1, 6, none⟩ = some (.int .i64 0) := (blk_cell hq1 6).trans rfl; have yf6 := blk_frozen hq1 6; have y7 : w3.cell? ⟨w.heap.size + 1, 7, none⟩ = some (.int .i64 0) := (blk_cell hq1 7).trans rfl; have yf7 := blk_frozen hq1 7; have y8 : w3.cell? ⟨w.heap.size + 1, 8, none⟩ = some (.int .i64 0) := (blk_cell hq1 8).trans rfl; have yf8 := blk_frozen hq1 8; have y9 : w3.cell? ⟨w.heap.size + 1, 9, none⟩ = some (.int .i64 0) := (blk_cell hq1 9).trans rfl; have yf9 := blk_frozen hq1 9; have y10 : w3.cell? ⟨w.heap.size + 1, 10, none⟩ = some (.int .i64 0) := (blk_cell hq1 10).trans rfl; have yf10 := blk_frozen hq1 10; have y11 : w3.cell? ⟨w.heap.size + 1, 11, none⟩ = some (.int .i64 0) := (blk_cell hq1 11).trans rfl; have yf11 := blk_frozen hq1 11; have HQ1 := Lib.hid hq1; have HB3 := Lib.hid hb3; clear hq0 hq1 hb3)))
    obtain ⟨W4, hW4⟩ : ∃ W, W = w3.alloc (.cells #[.int .i64 a.f0, .int .i64 a.f1, .int .i64 a.f2, .int .i64 a.f3, .int .i64 a.f4.f0, .int .i64 a.f4.f1, .int .i64 a.f4.f2, .int .i64 a.f4.f3, .int .i64 a.f5, .int .i64 a.f6] 44) := ⟨_, rfl⟩
    have hb4 : Below W2.heap.size W2 W4 := by rw [hW4]; exact HB3.out.alloc HB3.out.size _
    have hg4 : W4.heap[w3.heap.size]? = some (.cells #[.int .i64 a.f0, .int .i64 a.f1, .int .i64 a.f2, .int .i64 a.f3, .int .i64 a.f4.f0, .int .i64 a.f4.f1, .int .i64 a.f4.f2, .int .i64 a.f4.f3, .int .i64 a.f5, .int .i64 a.f6] 44 (0, 0)) := by rw [hW4]; exact heap_alloc_new _ _
    rw [← hW4]
    clear hW4 HQ1
    have hq0 := blk_below H0.out hb4
    have hq1 := blk_below H1.out hb4
    have z0 : W4.cell? ⟨w.heap.size, 0, none⟩ = some (.int .i64 r.f0) := (blk_cell hq0 0).trans rfl
    have z1 : W4.cell? ⟨w.heap.size, 1, none⟩ = some (.int .i64 r.f1) := (blk_cell hq0 1).trans rfl
    have z2 : W4.cell? ⟨w.heap.size, 2, none⟩ = some (.string r.f2) := (blk_cell hq0 2).trans rfl
    have y0 : W4.cell? ⟨w.heap.size + 1, 0, none⟩ = some (.int .i64 0) := (blk_cell hq1 0).trans rfl
    have yf0 := blk_frozen hq1 0
    have y1 : W4.cell? ⟨w.heap.size + 1, 1, none⟩ = some (.int .i64 0) := (blk_cell hq1 1).trans rfl
    have yf1 := blk_frozen hq1 1
    have y2 : W4.cell? ⟨w.heap.size + 1, 2, none⟩ = some (.int .i64 0) := (blk_cell hq1 2).trans rfl
    have yf2 := blk_frozen hq1 2
    have y3 : W4.cell? ⟨w.heap.size + 1, 3, none⟩ = some (.int .i64 0) := (blk_cell hq1 3).trans rfl
    have yf3 := blk_frozen hq1 3
    have y4 : W4.cell? ⟨w.heap.size + 1, 4, none⟩ = some (.int .i64 0) := (blk_cell hq1 4).trans rfl
    have yf4 := blk_frozen hq1 4
    have y5 : W4.cell? ⟨w.heap.size + 1, 5, none⟩ = some (.int .i64 0) := (blk_cell hq1 5).trans rfl
    have yf5 := blk_frozen hq1 5
    have y6 : W4.cell? ⟨w.heap.size + 1, 6, none⟩ = some (.int .i64 0) := (blk_cell hq1 6).trans rfl
    have yf6 := blk_frozen hq1 6
    have y7 : W4.cell? ⟨w.heap.size + 1, 7, none⟩ = some (.int .i64 0) := (blk_cell hq1 7).trans rfl
    have yf7 := blk_frozen hq1 7
    have y8 : W4.cell? ⟨w.heap.size + 1, 8, none⟩ = some (.int .i64 0) := (blk_cell hq1 8).trans rfl
    have yf8 := blk_frozen hq1 8
    have y9 : W4.cell? ⟨w.heap.size + 1, 9, none⟩ = some (.int .i64 0) := (blk_cell hq1 9).trans rfl
    have yf9 := blk_frozen hq1 9
    have y10 : W4.cell? ⟨w.heap.size + 1, 10, none⟩ = some (.int .i64 0) := (blk_cell hq1 10).trans rfl
    have yf10 := blk_frozen hq1 10
    have y11 : W4.cell? ⟨w.heap.size + 1, 11, none⟩ = some (.int .i64 0) := (blk_cell hq1 11).trans rfl
    have yf11 := blk_frozen hq1 11
    have x0 : W4.cell? ⟨w3.heap.size, 0, none⟩ = some (.int .i64 a.f0) := (blk_cell hg4 0).trans rfl
    have x1 : W4.cell? ⟨w3.heap.size, 1, none⟩ = some (.int .i64 a.f1) := (blk_cell hg4 1).trans rfl
    have x2 : W4.cell? ⟨w3.heap.size, 2, none⟩ = some (.int .i64 a.f2) := (blk_cell hg4 2).trans rfl
    have x3 : W4.cell? ⟨w3.heap.size, 3, none⟩ = some (.int .i64 a.f3) := (blk_cell hg4 3).trans rfl
    have x4 : W4.cell? ⟨w3.heap.size, 4, none⟩ = some (.int .i64 a.f4.f0) := (blk_cell hg4 4).trans rfl
    have x5 : W4.cell? ⟨w3.heap.size, 5, none⟩ = some (.int .i64 a.f4.f1) := (blk_cell hg4 5).trans rfl
    have x6 : W4.cell? ⟨w3.heap.size, 6, none⟩ = some (.int .i64 a.f4.f2) := (blk_cell hg4 6).trans rfl
    have x7 : W4.cell? ⟨w3.heap.size, 7, none⟩ = some (.int .i64 a.f4.f3) := (blk_cell hg4 7).trans rfl
    have x8 : W4.cell? ⟨w3.heap.size, 8, none⟩ = some (.int .i64 a.f5) := (blk_cell hg4 8).trans rfl
    have x9 : W4.cell? ⟨w3.heap.size, 9, none⟩ = some (.int .i64 a.f6) := (blk_cell hg4 9).trans rfl
    have HQ1 := Lib.hid hq1
    have HB4 := Lib.hid (HB.out.trans (hb4.mono HB.out.size))
    have HG4 := Lib.hid hg4
    clear hq0 hq1 hb4 hg4
    have HQZ := HQ1
    have HBZ := HB4
    go_wp2
    refine bodyPost_ret (results_ct' rfl _ _ (w.heap.size + 1) 46 #[.int .i64 0, .int .i64 0, .int .i64 0, .int .i64 0, .int .i64 0, .int .i64 0, .int .i64 0, .int .i64 0, .int .i64 0, .int .i64 0, .int .i64 0, .int .i64 0] (0, 0) _ rfl (put46_heap HQZ.out (.int .i64 0) (.int .i64 0) (.int .i64 0) (.int .i64 0) (.int .i64 0) (.int .i64 0) (.int .i64 0) (.int .i64 0) (.int .i64 0) (.int .i64 0) (.int .i64 0) (.int .i64 0)) Try.underlying46 rfl (by kernel_rfl)) rfl ?_
    have ho : inP r = (z46, 2) := if_neg (fun h => by have h2 := of_decide_eq_true h.2; omega)
    rw [ho]
    exact ⟨rfl, put46_below HBZ.out (Nat.le_succ _) (.int .i64 0) (.int .i64 0) (.int .i64 0) (.int .i64 0) (.int .i64 0) (.int .i64 0) (.int .i64 0) (.int .i64 0) (.int .i64 0) (.int .i64 0) (.int .i64 0) (.int .i64 0)⟩
  have d2 : decide (r.f1 < 0) = false := decide_eq_false k2
  by_cases k3 : 1099511627776 < r.f1
  · have d3 : decide (1099511627776 < r.f1) = true := decide_eq_true k3
    go_enter Try.func41, Try.ntmps41
    go_upto_region 1 with fail
    rw [← HW2.out]
    have z0 : W2.cell? ⟨w.heap.size, 0, none⟩ = some (.int .i64 r.f0) := (blk_cell H0.out 0).trans rfl
    have z1 : W2.cell? ⟨w.heap.size, 1, none⟩ = some (.int .i64 r.f1) := (blk_cell H0.out 1).trans rfl
    have z2 : W2.cell? ⟨w.heap.size, 2, none⟩ = some (.string r.f2) := (blk_cell H0.out 2).trans rfl
    go_upto_region 2 with (first | (go_at_call 75; go_loud ((with_reducible refine (HDEC.out _).mono ?_); rintro e' w3 ⟨rfl, hb3⟩; have hq0 := blk_below H0.out hb3; have hq1 := blk_below H1.out hb3; have z0 : w3.cell? ⟨w.heap.size, 0, none⟩ = some (.int .i64 r.f0) := (blk_cell hq0 0).trans rfl; have z1 : w3.cell? ⟨w.heap.size, 1, none⟩ = some (.int .i64 r.f1) := (blk_cell hq0 1).trans rfl; have z2 : w3.cell? ⟨w.heap.size, 2, none⟩ = some (.string r.f2) := (blk_cell hq0 2).trans rfl; have y0 : w3.cell? ⟨w.heap.size + 1, 0, none⟩ = some (.int .i64 0) := (blk_cell hq1 0).trans rfl; have yf0 := blk_frozen hq1 0; have y1 : w3.cell? ⟨w.heap.size + 1, 1, none⟩ = some (.int .i64 0) := (blk_cell hq1 1).trans rfl; have yf1 := blk_frozen hq1 1; have y2 : w3.cell? ⟨w.heap.size + 1, 2, none⟩ = some (.int .i64 0) := (blk_cell hq1 2).trans rfl; have yf2 := blk_frozen hq1 2; have y3 : w3.cell? ⟨w.heap.size + 1, 3, none⟩ = some (.int .i64 0) := (blk_cell hq1 3).trans rfl; have yf3 := blk_frozen hq1 3; have y4 : w3.cell? ⟨w.heap.size + 1, 4, none⟩ = some (.int .i64 0) := (blk_cell hq1 4).trans rfl; have yf4 := blk_frozen hq1 4; have y5 : w3.cell? ⟨w.heap.size + 1, 5, none⟩ = some (.int .i64 0) := (blk_cell hq1 5).trans rfl; have yf5 := blk_frozen hq1 5; have y6 : w3.cell? ⟨w.heap.size + 1, 6, none⟩ = some (.int .i64 0) := (blk_cell hq1 6).trans rfl; have yf6 := blk_frozen hq1 6; have y7 : w3.cell? ⟨w.heap.size + 1, 7, none⟩ = some (.int .i64 0) := (blk_cell hq1 7).trans rfl; have yf7 := blk_frozen hq1 7; have y8 : w3.cell? ⟨w.heap.size + 1, 8, none⟩ = some (.int .i64 0) := (blk_cell hq1 8).trans rfl; have yf8 := blk_frozen hq1 8; have y9 : w3.cell? ⟨w.heap.size + 1, 9, none⟩ = some (.int .i64 0) := (blk_cell hq1 9).trans rfl; have yf9 := blk_frozen hq1 9; have y10 : w3.cell? ⟨w.heap.size + 1, 10, none⟩ = some (.int .i64 0) := (blk_cell hq1 10).trans rfl; have yf10 := blk_frozen hq1 10; have y11 : w3.cell? ⟨w.heap.size + 1, 11, none⟩ = some (.int .i64 0) := (blk_cell hq1 11).trans rfl; have yf11 := blk_frozen hq1 11; have HQ1 := Lib.hid hq1; have HB3 := Lib.hid hb3; clear hq0 hq1 hb3)))
    obtain ⟨W4, hW4⟩ : ∃ W, W = w3.alloc (.cells #[.int .i64 a.f0, .int .i64 a.f1, .int .i64 a.f2, .int .i64 a.f3, .int .i64 a.f4.f0, .int .i64 a.f4.f1, .int .i64 a.f4.f2, .int .i64 a.f4.f3, .int .i64 a.f5, .int .i64 a.f6] 44) := ⟨_, rfl⟩
    have hb4 : Below W2.heap.size W2 W4 := by rw [hW4]; exact HB3.out.alloc HB3.out.size _
    have hg4 : W4.heap[w3.heap.size]? = some (.cells #[.int .i64 a.f0, .int .i64 a.f1, .int .i64 a.f2, .int .i64 a.f3, .int .i64 a.f4.f0, .int .i64 a.f4.f1, .int .i64 a.f4.f2, .int .i64 a.f4.f3, .int .i64 a.f5, .int .i64 a.f6] 44 (0, 0)) := by rw [hW4]; exact heap_alloc_new _ _
    rw [← hW4]
    clear hW4 HQ1
    have hq0 := blk_below H0.out hb4
    have hq1 := blk_below H1.out hb4
    have z0 : W4.cell? ⟨w.heap.size, 0, none⟩ = some (.int .i64 r.f0) := (blk_cell hq0 0).trans rfl
    have z1 : W4.cell? ⟨w.heap.size, 1, none⟩ = some (.int .i64 r.f1) := (blk_cell hq0 1).trans rfl
    have z2 : W4.cell? ⟨w.heap.size, 2, none⟩ = some (.string r.f2) := (blk_cell hq0 2).trans rfl
    have y0 : W4.cell? ⟨w.heap.size + 1, 0, none⟩ = some (.int .i64 0) := (blk_cell hq1 0).trans rfl
    have yf0 := blk_frozen hq1 0
    have y1 : W4.cell? ⟨w.heap.size + 1, 1, none⟩ = some (.int .i64 0) := (blk_cell hq1 1).trans rfl
    have yf1 := blk_frozen hq1 1
    have y2 : W4.cell? ⟨w.heap.size + 1, 2, none⟩ = some (.int .i64 0) := (blk_cell hq1 2).trans rfl
    have yf2 := blk_frozen hq1 2
    have y3 : W4.cell? ⟨w.heap.size + 1, 3, none⟩ = some (.int .i64 0) := (blk_cell hq1 3).trans rfl
    have yf3 := blk_frozen hq1 3
    have y4 : W4.cell? ⟨w.heap.size + 1, 4, none⟩ = some (.int .i64 0) := (blk_cell hq1 4).trans rfl
    have yf4 := blk_frozen hq1 4
    have y5 : W4.cell? ⟨w.heap.size + 1, 5, none⟩ = some (.int .i64 0) := (blk_cell hq1 5).trans rfl
    have yf5 := blk_frozen hq1 5
    have y6 : W4.cell? ⟨w.heap.size + 1, 6, none⟩ = some (.int .i64 0) := (blk_cell hq1 6).trans rfl
    have yf6 := blk_frozen hq1 6
    have y7 : W4.cell? ⟨w.heap.size + 1, 7, none⟩ = some (.int .i64 0) := (blk_cell hq1 7).trans rfl
    have yf7 := blk_frozen hq1 7
    have y8 : W4.cell? ⟨w.heap.size + 1, 8, none⟩ = some (.int .i64 0) := (blk_cell hq1 8).trans rfl
    have yf8 := blk_frozen hq1 8
    have y9 : W4.cell? ⟨w.heap.size + 1, 9, none⟩ = some (.int .i64 0) := (blk_cell hq1 9).trans rfl
    have yf9 := blk_frozen hq1 9
    have y10 : W4.cell? ⟨w.heap.size + 1, 10, none⟩ = some (.int .i64 0) := (blk_cell hq1 10).trans rfl
    have yf10 := blk_frozen hq1 10
    have y11 : W4.cell? ⟨w.heap.size + 1, 11, none⟩ = some (.int .i64 0) := (blk_cell hq1 11).trans rfl
    have yf11 := blk_frozen hq1 11
    have x0 : W4.cell? ⟨w3.heap.size, 0, none⟩ = some (.int .i64 a.f0) := (blk_cell hg4 0).trans rfl
    have x1 : W4.cell? ⟨w3.heap.size, 1, none⟩ = some (.int .i64 a.f1) := (blk_cell hg4 1).trans rfl
    have x2 : W4.cell? ⟨w3.heap.size, 2, none⟩ = some (.int .i64 a.f2) := (blk_cell hg4 2).trans rfl
    have x3 : W4.cell? ⟨w3.heap.size, 3, none⟩ = some (.int .i64 a.f3) := (blk_cell hg4 3).trans rfl
    have x4 : W4.cell? ⟨w3.heap.size, 4, none⟩ = some (.int .i64 a.f4.f0) := (blk_cell hg4 4).trans rfl
    have x5 : W4.cell? ⟨w3.heap.size, 5, none⟩ = some (.int .i64 a.f4.f1) := (blk_cell hg4 5).trans rfl
    have x6 : W4.cell? ⟨w3.heap.size, 6, none⟩ = some (.int .i64 a.f4.f2) := (blk_cell hg4 6).trans rfl
    have x7 : W4.cell? ⟨w3.heap.size, 7, none⟩ = some (.int .i64 a.f4.f3) := (blk_cell hg4 7).trans rfl
    have x8 : W4.cell? ⟨w3.heap.size, 8, none⟩ = some (.int .i64 a.f5) := (blk_cell hg4 8).trans rfl
    have x9 : W4.cell? ⟨w3.heap.size, 9, none⟩ = some (.int .i64 a.f6) := (blk_cell hg4 9).trans rfl
    have HQ1 := Lib.hid hq1
    have HB4 := Lib.hid (HB.out.trans (hb4.mono HB.out.size))
    have HG4 := Lib.hid hg4
    clear hq0 hq1 hb4 hg4
    have HQZ := HQ1
    have HBZ := HB4
    go_wp2
    refine bodyPost_ret (results_ct' rfl _ _ (w.heap.size + 1) 46 #[.int .i64 0, .int .i64 0, .int .i64 0, .int .i64 0, .int .i64 0, .int .i64 0, .int .i64 0, .int .i64 0, .int .i64 0, .int .i64 0, .int .i64 0, .int .i64 0] (0, 0) _ rfl (put46_heap HQZ.out (.int .i64 0) (.int .i64 0) (.int .i64 0) (.int .i64 0) (.int .i64 0) (.int .i64 0) (.int .i64 0) (.int .i64 0) (.int .i64 0) (.int .i64 0) (.int .i64 0) (.int .i64 0)) Try.underlying46 rfl (by kernel_rfl)) rfl ?_
    have ho : inP r = (z46, 2) := if_neg (fun h => by have h2 := of_decide_eq_true h.2; omega)
    rw [ho]
    exact ⟨rfl, put46_below HBZ.out (Nat.le_succ _) (.int .i64 0) (.int .i64 0) (.int .i64 0) (.int .i64 0) (.int .i64 0) (.int .i64 0) (.int .i64 0) (.int .i64 0) (.int .i64 0) (.int .i64 0) (.int .i64 0) (.int .i64 0)⟩
  have d3 : decide (1099511627776 < r.f1) = false := decide_eq_false k3
  go_enter Try.func41, Try.ntmps41
  go_upto_region 1 with fail
  rw [← HW2.out]
  have z0 : W2.cell? ⟨w.heap.size, 0, none⟩ = some (.int .i64 r.f0) := (blk_cell H0.out 0).trans rfl
  have z1 : W2.cell? ⟨w.heap.size, 1, none⟩ = some (.int .i64 r.f1) := (blk_cell H0.out 1).trans rfl
  have z2 : W2.cell? ⟨w.heap.size, 2, none⟩ = some (.string r.f2) := (blk_cell H0.out 2).trans rfl
  go_upto_region 2 with (first | (go_at_call 75; go_loud ((with_reducible refine (HDEC.out _).mono ?_); rintro e' w3 ⟨rfl, hb3⟩; have hq0 := blk_below H0.out hb3; have hq1 := blk_below H1.out hb3; have z0 : w3.cell? ⟨w.heap.size, 0, none⟩ = some (.int .i64 r.f0) := (blk_cell hq0 0).trans rfl; have z1 : w3.cell? ⟨w.heap.size, 1, none⟩ = some (.int .i64 r.f1) := (blk_cell hq0 1).trans rfl; have z2 : w3.cell? ⟨w.heap.size, 2, none⟩ = some (.string r.f2) := (blk_cell hq0 2).trans rfl; have y0 : w3.cell? ⟨w.heap.size + 1, 0, none⟩ = some (.int .i64 0) := (blk_cell hq1 0).trans rfl; have yf0 := blk_frozen hq1 0; have y1 : w3.cell? ⟨w.heap.size + 1, 1, none⟩ = some (.int .i64 0) := (blk_cell hq1 1).trans rfl; have yf1 := blk_frozen hq1 1; have y2 : w3.cell? ⟨w.heap.size + 1, 2, none⟩ = some (.int .i64 0) := (blk_cell hq1 2).trans rfl; have yf2 := blk_frozen hq1 2; have y3 : w3.cell? ⟨w.heap.size + 1, 3, none⟩ = some (.int .i64 0) := (blk_cell hq1 3).trans rfl; have yf3 := blk_frozen hq1 3; have y4 : w3.cell? ⟨w.heap.size + 1, 4, none⟩ = some (.int .i64 0) := (blk_cell hq1 4).trans rfl; have yf4 := blk_frozen hq1 4; have y5 : w3.cell? ⟨w.heap.size + 1, 5, none⟩ = some (.int .i64 0) := (blk_cell hq1 5).trans rfl; have yf5 := blk_frozen hq1 5; have y6 : w3.cell? ⟨w.heap.size + 1, 6, none⟩ = some (.int .i64 0) := (blk_cell hq1 6).trans rfl; have yf6 := blk_frozen hq1 6; have y7 : w3.cell? ⟨w.heap.size + 1, 7, none⟩ = some (.int .i64 0) := (blk_cell hq1 7).trans rfl; have yf7 := blk_frozen hq1 7; have y8 : w3.cell? ⟨w.heap.size + 1, 8, none⟩ = some (.int .i64 0) := (blk_cell hq1 8).trans rfl; have yf8 := blk_frozen hq1 8; have y9 : w3.cell? ⟨w.heap.size + 1, 9, none⟩ = some (.int .i64 0) := (blk_cell hq1 9).trans rfl; have yf9 := blk_frozen hq1 9; have y10 : w3.cell? ⟨w.heap.size + 1, 10, none⟩ = some (.int .i64 0) := (blk_cell hq1 10).trans rfl; have yf10 := blk_frozen hq1 10; have y11 : w3.cell? ⟨w.heap.size + 1, 11, none⟩ = some (.int .i64 0) := (blk_cell hq1 11).trans rfl; have yf11 := blk_frozen hq1 11; have HQ1 := Lib.hid hq1; have HB3 := Lib.hid hb3; clear hq0 hq1 hb3)))
  obtain ⟨W4, hW4⟩ : ∃ W, W = w3.alloc (.cells #[.int .i64 a.f0, .int .i64 a.f1, .int .i64 a.f2, .int .i64 a.f3, .int .i64 a.f4.f0, .int .i64 a.f4.f1, .int .i64 a.f4.f2, .int .i64 a.f4.f3, .int .i64 a.f5, .int .i64 a.f6] 44) := ⟨_, rfl⟩
  have hb4 : Below W2.heap.size W2 W4 := by rw [hW4]; exact HB3.out.alloc HB3.out.size _
  have hg4 : W4.heap[w3.heap.size]? = some (.cells #[.int .i64 a.f0, .int .i64 a.f1, .int .i64 a.f2, .int .i64 a.f3, .int .i64 a.f4.f0, .int .i64 a.f4.f1, .int .i64 a.f4.f2, .int .i64 a.f4.f3, .int .i64 a.f5, .int .i64 a.f6] 44 (0, 0)) := by rw [hW4]; exact heap_alloc_new _ _
  rw [← hW4]
  clear hW4 HQ1
  have hq0 := blk_below H0.out hb4
  have hq1 := blk_below H1.out hb4
  have z0 : W4.cell? ⟨w.heap.size, 0, none⟩ = some (.int .i64 r.f0) := (blk_cell hq0 0).trans rfl
  have z1 : W4.cell? ⟨w.heap.size, 1, none⟩ = some (.int .i64 r.f1) := (blk_cell hq0 1).trans rfl
  have z2 : W4.cell? ⟨w.heap.size, 2, none⟩ = some (.string r.f2) := (blk_cell hq0 2).trans rfl
  have y0 : W4.cell? ⟨w.heap.size + 1, 0, none⟩ = some (.int .i64 0) := (blk_cell hq1 0).trans rfl
  have yf0 := blk_frozen hq1 0
  have y1 : W4.cell? ⟨w.heap.size + 1, 1, none⟩ = some (.int .i64 0) := (blk_cell hq1 1).trans rfl
  have yf1 := blk_frozen hq1 1
  have y2 : W4.cell? ⟨w.heap.size + 1, 2, none⟩ = some (.int .i64 0) := (blk_cell hq1 2).trans rfl
  have yf2 := blk_frozen hq1 2
  have y3 : W4.cell? ⟨w.heap.size + 1, 3, none⟩ = some (.int .i64 0) := (blk_cell hq1 3).trans rfl
  have yf3 := blk_frozen hq1 3
  have y4 : W4.cell? ⟨w.heap.size + 1, 4, none⟩ = some (.int .i64 0) := (blk_cell hq1 4).trans rfl
  have yf4 := blk_frozen hq1 4
  have y5 : W4.cell? ⟨w.heap.size + 1, 5, none⟩ = some (.int .i64 0) := (blk_cell hq1 5).trans rfl
  have yf5 := blk_frozen hq1 5
  have y6 : W4.cell? ⟨w.heap.size + 1, 6, none⟩ = some (.int .i64 0) := (blk_cell hq1 6).trans rfl
  have yf6 := blk_frozen hq1 6
  have y7 : W4.cell? ⟨w.heap.size + 1, 7, none⟩ = some (.int .i64 0) := (blk_cell hq1 7).trans rfl
  have yf7 := blk_frozen hq1 7
  have y8 : W4.cell? ⟨w.heap.size + 1, 8, none⟩ = some (.int .i64 0) := (blk_cell hq1 8).trans rfl
  have yf8 := blk_frozen hq1 8
  have y9 : W4.cell? ⟨w.heap.size + 1, 9, none⟩ = some (.int .i64 0) := (blk_cell hq1 9).trans rfl
  have yf9 := blk_frozen hq1 9
  have y10 : W4.cell? ⟨w.heap.size + 1, 10, none⟩ = some (.int .i64 0) := (blk_cell hq1 10).trans rfl
  have yf10 := blk_frozen hq1 10
  have y11 : W4.cell? ⟨w.heap.size + 1, 11, none⟩ = some (.int .i64 0) := (blk_cell hq1 11).trans rfl
  have yf11 := blk_frozen hq1 11
  have x0 : W4.cell? ⟨w3.heap.size, 0, none⟩ = some (.int .i64 a.f0) := (blk_cell hg4 0).trans rfl
  have x1 : W4.cell? ⟨w3.heap.size, 1, none⟩ = some (.int .i64 a.f1) := (blk_cell hg4 1).trans rfl
  have x2 : W4.cell? ⟨w3.heap.size, 2, none⟩ = some (.int .i64 a.f2) := (blk_cell hg4 2).trans rfl
  have x3 : W4.cell? ⟨w3.heap.size, 3, none⟩ = some (.int .i64 a.f3) := (blk_cell hg4 3).trans rfl
  have x4 : W4.cell? ⟨w3.heap.size, 4, none⟩ = some (.int .i64 a.f4.f0) := (blk_cell hg4 4).trans rfl
  have x5 : W4.cell? ⟨w3.heap.size, 5, none⟩ = some (.int .i64 a.f4.f1) := (blk_cell hg4 5).trans rfl
  have x6 : W4.cell? ⟨w3.heap.size, 6, none⟩ = some (.int .i64 a.f4.f2) := (blk_cell hg4 6).trans rfl
  have x7 : W4.cell? ⟨w3.heap.size, 7, none⟩ = some (.int .i64 a.f4.f3) := (blk_cell hg4 7).trans rfl
  have x8 : W4.cell? ⟨w3.heap.size, 8, none⟩ = some (.int .i64 a.f5) := (blk_cell hg4 8).trans rfl
  have x9 : W4.cell? ⟨w3.heap.size, 9, none⟩ = some (.int .i64 a.f6) := (blk_cell hg4 9).trans rfl
  have HQ1 := Lib.hid hq1
  have HB4 := Lib.hid (HB.out.trans (hb4.mono HB.out.size))
  have HG4 := Lib.hid hg4
  clear hq0 hq1 hb4 hg4
  have HQZ := HQ1
  have HBZ := HB4
  go_wp2
  refine bodyPost_ret (results_ct' rfl _ _ (w.heap.size + 1) 46 #[.int .i64 r.f0, .int .i64 r.f1, .int .i64 a.f0, .int .i64 a.f1, .int .i64 a.f2, .int .i64 a.f3, .int .i64 a.f4.f0, .int .i64 a.f4.f1, .int .i64 a.f4.f2, .int .i64 a.f4.f3, .int .i64 a.f5, .int .i64 a.f6] (0, 0) _ rfl (put46_heap HQZ.out (.int .i64 r.f0) (.int .i64 r.f1) (.int .i64 a.f0) (.int .i64 a.f1) (.int .i64 a.f2) (.int .i64 a.f3) (.int .i64 a.f4.f0) (.int .i64 a.f4.f1) (.int .i64 a.f4.f2) (.int .i64 a.f4.f3) (.int .i64 a.f5) (.int .i64 a.f6)) Try.underlying46 rfl (by kernel_rfl)) rfl ?_
  have ho : inP r = (⟨r.f0, r.f1, a⟩, 0) := by unfold inP; rw [HD.out, if_pos ⟨rfl, decide_eq_true (by omega)⟩]
  rw [ho]
  exact ⟨rfl, put46_below HBZ.out (Nat.le_succ _) (.int .i64 r.f0) (.int .i64 r.f1) (.int .i64 a.f0) (.int .i64 a.f1) (.int .i64 a.f2) (.int .i64 a.f3) (.int .i64 a.f4.f0) (.int .i64 a.f4.f1) (.int .i64 a.f4.f2) (.int .i64 a.f4.f3) (.int .i64 a.f5) (.int .i64 a.f6)⟩
end Go.Proofs.Ytgipepjpkmlmaaa.P
