import Derived.Test.YtgipepjpkmlmaaaQS1
import Derived.Test.YtgipepjpkmlmaaaQS2
import Derived.Test.YtgipepjpkmlmaaaQS3
import Derived.Test.YtgipepjpkmlmaaaQS4
import Derived.Test.YtgipepjpkmlmaaaQS5
import Derived.Test.YtgipepjpkmlmaaaQS6
import Derived.Test.YtgipepjpkmlmaaaQS7
import Derived.Test.YtgipepjpkmlmaaaQS8
import Derived.Test.YtgipepjpkmlmaaaQS9
import Derived.Test.YtgipepjpkmlmaaaQS10
import Derived.Test.YtgipepjpkmlmaaaQS11
import Derived.Test.YtgipepjpkmlmaaaQS12
import Derived.Test.YtgipepjpkmlmaaaQS13
import Derived.Test.YtgipepjpkmlmaaaQS14
import Derived.Test.YtgipepjpkmlmaaaQS15
import Derived.Test.YtgipepjpkmlmaaaQS16
import Derived.Test.YtgipepjpkmlmaaaQS17
import Derived.Test.YtgipepjpkmlmaaaQS18
import Derived.Test.YtgipepjpkmlmaaaQS19
namespace Go.Proofs.Ytgipepjpkmlmaaa.P
open Go.RowKit Go.Proofs.YtgipepjpkmlmaaaW.PrintWords Go.Proofs.YtgipepjpkmlmaaaW.PrintLast Go.Proofs.YtgipepjpkmlmaaaW.PrintMore
set_option linter.unusedVariables false
set_option linter.unusedSimpArgs false
attribute [local go_sem high] eqA46
theorem gone_succ (a b : List S46) (i : Nat) (h : i < a.length) (q : Bool) (hq : b.any (fun y => eqC (rd_T46 a (i : Int)) y) = q) : goneN (a.take (i + 1)) b = goneN (a.take i) b + (if q = true then 0 else 1) := by
  unfold goneN
  rw [List.take_add_one, List.getElem?_eq_getElem h, Option.toList_some, List.countP_append, List.countP_singleton, ← rd_get a i h, hq]
  cases q <;> rfl
theorem new_succ (a b : List S46) (k : Nat) (h : k < b.length) (q : Bool) (hq : a.any (fun x => sameW x (rd_T46 b (k : Int))) = q) : newN a (b.take (k + 1)) = newN a (b.take k) + (if q = true then 0 else 1) := by
  unfold newN
  rw [List.take_add_one, List.getElem?_eq_getElem h, Option.toList_some, List.countP_append, List.countP_singleton, ← rd_get b k h, hq]
  cases q <;> rfl
theorem any_succ (l : List S46) (p : S46 → Bool) (k : Nat) (h : k < l.length) : (l.take (k + 1)).any p = ((l.take k).any p || p (rd_T46 l (k : Int))) := by
  rw [List.take_add_one, List.getElem?_eq_getElem h, Option.toList_some, List.any_append, rd_get l k h]
  simp
theorem gone_le (a b : List S46) (i : Nat) : goneN (a.take i) b ≤ i := Nat.le_trans List.countP_le_length (by rw [List.length_take]; omega)
theorem new_le (a b : List S46) (i : Nat) : newN a (b.take i) ≤ i := Nat.le_trans List.countP_le_length (by rw [List.length_take]; omega)
theorem mayRec_calls (r : S50) (h : mayRec r = true) (w : World) : Calls Try.prog 28 #[.agg #[.int .i64 r.f0, .int .i64 r.f1, .string r.f2]] w fun e w' => e = .returned (.bool true) ∧ Below w.heap.size w w' := by
  obtain ⟨h0, h1, h2, h3, h4⟩ := (mayRec_iff r).1 h
  refine headgateref06_MayRecord.calls r.f0 r.f1 r.f2 true w ?_
  unfold headgateref06_MayRecord.f headgateref06_In.f
  simp [h0, h1, h2, h3]
  omega
set_option maxHeartbeats 16000000 in
set_option maxRecDepth 100000 in
/-- ChangeSmall answers true. -/
theorem changeSmall_walk (g : S23) (a : S28) (Aa : Option Addr) (ca : Nat) (b : S28) (Ab : Option Addr) (cb : Nat) (w : World) (hca : a.f4.length ≤ ca) (hra : Kd.C k46 w Aa a.f4.length a.f4) (ha : stateR a) (hcb : b.f4.length ≤ cb) (hrb : Kd.C k46 w Ab b.f4.length b.f4) (hb : stateR b) :
    Calls Try.prog 12 #[gridV g, .agg #[.int .i64 a.f0, .int .i64 a.f1, .int .i64 a.f2, .int .i64 a.f3, .slice Aa a.f4.length ca], .agg #[.int .i64 b.f0, .int .i64 b.f1, .int .i64 b.f2, .int .i64 b.f3, .slice Ab b.f4.length cb]] w fun e w' => e = .returned (.bool true) ∧ Below w.heap.size w w' := by
  have hla := fun (w : World) (h : Kd.C k46 w Aa a.f4.length a.f4) => headgatelaw17_light.calls a.f0 a.f1 a.f2 a.f3 Aa ca a.f4 _ w h hca rfl
  have hlb := fun (w : World) (h : Kd.C k46 w Ab b.f4.length b.f4) => headgatelaw17_light.calls b.f0 b.f1 b.f2 b.f3 Ab cb b.f4 _ w h hcb rfl
  have hma := fun (w : World) (h : Kd.C k46 w Aa a.f4.length a.f4) => mayE_calls g a Aa ca w h hca
  have hmb := fun (w : World) (h : Kd.C k46 w Ab b.f4.length b.f4) => mayE_calls g b Ab cb w h hcb
  have hdab := fun (w : World) (h1 : Kd.C k46 w Aa a.f4.length a.f4) (h2 : Kd.C k46 w Ab b.f4.length b.f4) (k1 : a.f4.length ≤ 400) (k2 : b.f4.length ≤ 400) => diff_calls a b ha hb Aa Ab ca cb w h1 hca h2 hcb k1 k2
  have hsmall := fun (h1 : ordL a.f4) (h2 : ordL b.f4) => diff_small a b h1 h2
  have hrec := fun (h1 : MayP a) (h2 : MayP b) => diff_rec a b hb h1 h2
  have hdlen := diff_len a b
  obtain ⟨D, hD⟩ : ∃ D, diffP a b = D := ⟨_, rfl⟩
  rw [hD] at hdab hsmall hrec hdlen
  have HSMALL := Lib.hid hsmall
  have HREC := Lib.hid hrec
  have HDLEN := Lib.hid hdlen
  clear hD
  obtain ⟨na, hna⟩ : ∃ na, a.f4.length = na := ⟨_, rfl⟩
  obtain ⟨nb, hnb⟩ : ∃ nb, b.f4.length = nb := ⟨_, rfl⟩
  rw [hna] at hra hca hla hma hdab ⊢
  rw [hnb] at hrb hcb hlb hmb hdab ⊢
  have HNA := Lib.hid hna
  have HNB := Lib.hid hnb
  have HLA := Lib.hid hla
  have HLB := Lib.hid hlb
  have HMA := Lib.hid hma
  have HMB := Lib.hid hmb
  have HDAB := Lib.hid hdab
  have HAW := Lib.hid awake17_calls
  obtain ⟨W3, hW3⟩ : ∃ W, W = ((w.alloc (.cells #[.int .i64 g.f0, .int .i64 g.f1, .int .i64 g.f2] 23)).alloc (.cells #[.int .i64 a.f0, .int .i64 a.f1, .int .i64 a.f2, .int .i64 a.f3, .slice Aa na ca] 28)).alloc (.cells #[.int .i64 b.f0, .int .i64 b.f1, .int .i64 b.f2, .int .i64 b.f3, .slice Ab nb cb] 28) := ⟨_, rfl⟩
  have h0 : W3.heap[w.heap.size]? = some (.cells #[.int .i64 g.f0, .int .i64 g.f1, .int .i64 g.f2] 23 (0, 0)) := by
    rw [hW3]
    exact blk_below (blk_below (heap_alloc_new w _) ((Below.refl _ _).alloc (Nat.le_refl _) _)) ((Below.refl _ _).alloc (Nat.le_refl _) _)
  have h1 : W3.heap[w.heap.size + 1]? = some (.cells #[.int .i64 a.f0, .int .i64 a.f1, .int .i64 a.f2, .int .i64 a.f3, .slice Aa na ca] 28 (0, 0)) := by
    rw [hW3]
    have := blk_below (heap_alloc_new (w.alloc (.cells #[.int .i64 g.f0, .int .i64 g.f1, .int .i64 g.f2] 23)) (.cells #[.int .i64 a.f0, .int .i64 a.f1, .int .i64 a.f2, .int .i64 a.f3, .slice Aa na ca] 28)) ((Below.refl _ _).alloc (Nat.le_refl _) (.cells #[.int .i64 b.f0, .int .i64 b.f1, .int .i64 b.f2, .int .i64 b.f3, .slice Ab nb cb] 28))
    simpa using this
  have h2 : W3.heap[w.heap.size + 1 + 1]? = some (.cells #[.int .i64 b.f0, .int .i64 b.f1, .int .i64 b.f2, .int .i64 b.f3, .slice Ab nb cb] 28 (0, 0)) := by
    rw [hW3]
    have := heap_alloc_new ((w.alloc (.cells #[.int .i64 g.f0, .int .i64 g.f1, .int .i64 g.f2] 23)).alloc (.cells #[.int .i64 a.f0, .int .i64 a.f1, .int .i64 a.f2, .int .i64 a.f3, .slice Aa na ca] 28)) (.cells #[.int .i64 b.f0, .int .i64 b.f1, .int .i64 b.f2, .int .i64 b.f3, .slice Ab nb cb] 28)
    simpa using this
  have hbw : Below w.heap.size w W3 := by rw [hW3]; exact below_alloc (below_alloc (below_alloc (Below.refl _ _) _) _) _
  have HB := Lib.hid hbw
  have HW3 := Lib.hid hW3
  have H0 := Lib.hid h0
  have H1 := Lib.hid h1
  have H2 := Lib.hid h2
  have HRA0 := Lib.hid hra
  have HRB0 := Lib.hid hrb
  have HRA := Lib.hid (Kd.C_below hra hbw)
  have HRB := Lib.hid (Kd.C_below hrb hbw)
  have g0 : W3.cell? ⟨w.heap.size, 0, none⟩ = some (.int .i64 g.f0) := (blk_cell h0 0).trans rfl
  have g1 : W3.cell? ⟨w.heap.size, 1, none⟩ = some (.int .i64 g.f1) := (blk_cell h0 1).trans rfl
  have g2 : W3.cell? ⟨w.heap.size, 2, none⟩ = some (.int .i64 g.f2) := (blk_cell h0 2).trans rfl
  have x0 : W3.cell? ⟨w.heap.size + 1, 0, none⟩ = some (.int .i64 a.f0) := (blk_cell h1 0).trans rfl
  have x1 : W3.cell? ⟨w.heap.size + 1, 1, none⟩ = some (.int .i64 a.f1) := (blk_cell h1 1).trans rfl
  have x2 : W3.cell? ⟨w.heap.size + 1, 2, none⟩ = some (.int .i64 a.f2) := (blk_cell h1 2).trans rfl
  have x3 : W3.cell? ⟨w.heap.size + 1, 3, none⟩ = some (.int .i64 a.f3) := (blk_cell h1 3).trans rfl
  have x4 : W3.cell? ⟨w.heap.size + 1, 4, none⟩ = some (.slice Aa na ca) := (blk_cell h1 4).trans rfl
  have y0 : W3.cell? ⟨w.heap.size + 1 + 1, 0, none⟩ = some (.int .i64 b.f0) := (blk_cell h2 0).trans rfl
  have y1 : W3.cell? ⟨w.heap.size + 1 + 1, 1, none⟩ = some (.int .i64 b.f1) := (blk_cell h2 1).trans rfl
  have y2 : W3.cell? ⟨w.heap.size + 1 + 1, 2, none⟩ = some (.int .i64 b.f2) := (blk_cell h2 2).trans rfl
  have y3 : W3.cell? ⟨w.heap.size + 1 + 1, 3, none⟩ = some (.int .i64 b.f3) := (blk_cell h2 3).trans rfl
  have y4 : W3.cell? ⟨w.heap.size + 1 + 1, 4, none⟩ = some (.slice Ab nb cb) := (blk_cell h2 4).trans rfl
  clear hW3 h0 h1 h2 hbw hra hrb hla hlb hma hmb hdab hsmall hrec hdlen hna hnb ha hb
  go_enter Try.func12, Try.ntmps12
  go_upto_region 1 with fail
  rw [← HW3.out]
  go_cut [35] from 16 to 34 (fun v35 wc => ∃ bad : Bool, v35 = .bool bad ∧ (bad = false → (na ≤ 80 ∧ nb ≤ 80) ∧ MayP a ∧ MayP b) ∧ Below W3.heap.size W3 wc)
  case first =>
    by_cases k1 : na ≤ 80
    rotate_left
    · have hla := HLA.out
      have d1 : decide ((na : Int) ≤ 80) = false := decide_eq_false (by omega)
      rw [d1] at hla
      have HLA' := Lib.hid hla
      clear hla d1 HLA
      go_wp2_with (first | (go_at_call 30; go_loud ((with_reducible refine (HLA'.out _ HRA.out).mono ?_); rintro e w4 ⟨rfl, hb4⟩; have HB4 := Lib.hid hb4; clear hb4)))
      go_meet
      case rel => exact ⟨true, rfl, (fun h => by cases h), HB4.out⟩
    have hla := HLA.out
    have d1 : decide ((na : Int) ≤ 80) = true := decide_eq_true (by omega)
    rw [d1] at hla
    have HLA' := Lib.hid hla
    clear hla d1 HLA
    by_cases k2 : nb ≤ 80
    rotate_left
    · have hlb := HLB.out
      have d1 : decide ((nb : Int) ≤ 80) = false := decide_eq_false (by omega)
      rw [d1] at hlb
      have HLB' := Lib.hid hlb
      clear hlb d1 HLB
      go_wp2_with (first | (go_at_call 30; go_loud ((with_reducible refine (HLA'.out _ HRA.out).mono ?_); rintro e w4 ⟨rfl, hb4⟩; have HB4 := Lib.hid hb4; have q2 := blk_below H2.out hb4; have y0 : w4.cell? ⟨w.heap.size + 1 + 1, 0, none⟩ = some (.int .i64 b.f0) := (blk_cell q2 0).trans rfl; have y1 : w4.cell? ⟨w.heap.size + 1 + 1, 1, none⟩ = some (.int .i64 b.f1) := (blk_cell q2 1).trans rfl; have y2 : w4.cell? ⟨w.heap.size + 1 + 1, 2, none⟩ = some (.int .i64 b.f2) := (blk_cell q2 2).trans rfl; have y3 : w4.cell? ⟨w.heap.size + 1 + 1, 3, none⟩ = some (.int .i64 b.f3) := (blk_cell q2 3).trans rfl; have y4 : w4.cell? ⟨w.heap.size + 1 + 1, 4, none⟩ = some (.slice Ab nb cb) := (blk_cell q2 4).trans rfl; have HRB4 := Lib.hid (Kd.C_below HRB.out hb4); clear hb4 q2)) | (go_at_call 30; go_loud ((with_reducible refine (HLB'.out _ HRB4.out).mono ?_); rintro e w5 ⟨rfl, hb5⟩; have hb5' := HB4.out.trans (hb5.mono HB4.out.size); have HB5 := Lib.hid hb5'; have q0 := blk_below H0.out hb5'; have q1 := blk_below H1.out hb5'; have g0 : w5.cell? ⟨w.heap.size, 0, none⟩ = some (.int .i64 g.f0) := (blk_cell q0 0).trans rfl; have g1 : w5.cell? ⟨w.heap.size, 1, none⟩ = some (.int .i64 g.f1) := (blk_cell q0 1).trans rfl; have g2 : w5.cell? ⟨w.heap.size, 2, none⟩ = some (.int .i64 g.f2) := (blk_cell q0 2).trans rfl; have x0 : w5.cell? ⟨w.heap.size + 1, 0, none⟩ = some (.int .i64 a.f0) := (blk_cell q1 0).trans rfl; have x1 : w5.cell? ⟨w.heap.size + 1, 1, none⟩ = some (.int .i64 a.f1) := (blk_cell q1 1).trans rfl; have x2 : w5.cell? ⟨w.heap.size + 1, 2, none⟩ = some (.int .i64 a.f2) := (blk_cell q1 2).trans rfl; have x3 : w5.cell? ⟨w.heap.size + 1, 3, none⟩ = some (.int .i64 a.f3) := (blk_cell q1 3).trans rfl; have x4 : w5.cell? ⟨w.heap.size + 1, 4, none⟩ = some (.slice Aa na ca) := (blk_cell q1 4).trans rfl; have HRA5 := Lib.hid (Kd.C_below HRA.out hb5'); clear hb5 hb5' q0 q1)))
      go_meet
      case rel => exact ⟨true, rfl, (fun h => by cases h), HB5.out⟩
    have hlb := HLB.out
    have d1 : decide ((nb : Int) ≤ 80) = true := decide_eq_true (by omega)
    rw [d1] at hlb
    have HLB' := Lib.hid hlb
    clear hlb d1 HLB
    go_wp2_with (first | (go_at_call 30; go_loud ((with_reducible refine (HLA'.out _ HRA.out).mono ?_); rintro e w4 ⟨rfl, hb4⟩; have HB4 := Lib.hid hb4; have q2 := blk_below H2.out hb4; have y0 : w4.cell? ⟨w.heap.size + 1 + 1, 0, none⟩ = some (.int .i64 b.f0) := (blk_cell q2 0).trans rfl; have y1 : w4.cell? ⟨w.heap.size + 1 + 1, 1, none⟩ = some (.int .i64 b.f1) := (blk_cell q2 1).trans rfl; have y2 : w4.cell? ⟨w.heap.size + 1 + 1, 2, none⟩ = some (.int .i64 b.f2) := (blk_cell q2 2).trans rfl; have y3 : w4.cell? ⟨w.heap.size + 1 + 1, 3, none⟩ = some (.int .i64 b.f3) := (blk_cell q2 3).trans rfl; have y4 : w4.cell? ⟨w.heap.size + 1 + 1, 4, none⟩ = some (.slice Ab nb cb) := (blk_cell q2 4).trans rfl; have HRB4 := Lib.hid (Kd.C_below HRB.out hb4); clear hb4 q2)) | (go_at_call 30; go_loud ((with_reducible refine (HLB'.out _ HRB4.out).mono ?_); rintro e w5 ⟨rfl, hb5⟩; have hb5' := HB4.out.trans (hb5.mono HB4.out.size); have HB5 := Lib.hid hb5'; have q0 := blk_below H0.out hb5'; have q1 := blk_below H1.out hb5'; have g0 : w5.cell? ⟨w.heap.size, 0, none⟩ = some (.int .i64 g.f0) := (blk_cell q0 0).trans rfl; have g1 : w5.cell? ⟨w.heap.size, 1, none⟩ = some (.int .i64 g.f1) := (blk_cell q0 1).trans rfl; have g2 : w5.cell? ⟨w.heap.size, 2, none⟩ = some (.int .i64 g.f2) := (blk_cell q0 2).trans rfl; have x0 : w5.cell? ⟨w.heap.size + 1, 0, none⟩ = some (.int .i64 a.f0) := (blk_cell q1 0).trans rfl; have x1 : w5.cell? ⟨w.heap.size + 1, 1, none⟩ = some (.int .i64 a.f1) := (blk_cell q1 1).trans rfl; have x2 : w5.cell? ⟨w.heap.size + 1, 2, none⟩ = some (.int .i64 a.f2) := (blk_cell q1 2).trans rfl; have x3 : w5.cell? ⟨w.heap.size + 1, 3, none⟩ = some (.int .i64 a.f3) := (blk_cell q1 3).trans rfl; have x4 : w5.cell? ⟨w.heap.size + 1, 4, none⟩ = some (.slice Aa na ca) := (blk_cell q1 4).trans rfl; have HRA5 := Lib.hid (Kd.C_below HRA.out hb5'); clear hb5 hb5' q0 q1)) | (go_at_call 35; go_loud ((with_reducible refine (HMA.out _ HRA5.out).mono ?_); rintro e w6 ⟨qa, rfl, hqa, hb6⟩; have hb6' := HB5.out.trans (hb6.mono HB5.out.size); have HB6 := Lib.hid hb6'; have q0 := blk_below H0.out hb6'; have q2 := blk_below H2.out hb6'; have g0 : w6.cell? ⟨w.heap.size, 0, none⟩ = some (.int .i64 g.f0) := (blk_cell q0 0).trans rfl; have g1 : w6.cell? ⟨w.heap.size, 1, none⟩ = some (.int .i64 g.f1) := (blk_cell q0 1).trans rfl; have g2 : w6.cell? ⟨w.heap.size, 2, none⟩ = some (.int .i64 g.f2) := (blk_cell q0 2).trans rfl; have y0 : w6.cell? ⟨w.heap.size + 1 + 1, 0, none⟩ = some (.int .i64 b.f0) := (blk_cell q2 0).trans rfl; have y1 : w6.cell? ⟨w.heap.size + 1 + 1, 1, none⟩ = some (.int .i64 b.f1) := (blk_cell q2 1).trans rfl; have y2 : w6.cell? ⟨w.heap.size + 1 + 1, 2, none⟩ = some (.int .i64 b.f2) := (blk_cell q2 2).trans rfl; have y3 : w6.cell? ⟨w.heap.size + 1 + 1, 3, none⟩ = some (.int .i64 b.f3) := (blk_cell q2 3).trans rfl; have y4 : w6.cell? ⟨w.heap.size + 1 + 1, 4, none⟩ = some (.slice Ab nb cb) := (blk_cell q2 4).trans rfl; have HRB6 := Lib.hid (Kd.C_below HRB.out hb6'); have HQA := Lib.hid hqa; clear hb6 hb6' q0 q2 hqa; cases qa)) | (go_at_call 35; go_loud ((with_reducible refine (HMB.out _ HRB6.out).mono ?_); rintro e w7 ⟨qb, rfl, hqb, hb7⟩; have HB7 := Lib.hid (HB6.out.trans (hb7.mono HB6.out.size)); have HQB := Lib.hid hqb; clear hb7 hqb; cases qb)))
    · go_meet
      case rel => exact ⟨true, rfl, (fun h => by cases h), HB6.out⟩
    · go_meet
      case rel => exact ⟨true, rfl, (fun h => by cases h), HB7.out⟩
    · go_meet
      case rel => exact ⟨false, rfl, (fun _ => ⟨⟨k1, k2⟩, HQA.out (by first | rfl | trivial), HQB.out (by first | rfl | trivial)⟩), HB7.out⟩
  case rest =>
    obtain ⟨bad, rfl, hbad, hb0⟩ := hcut
    obtain ⟨WX, hWX⟩ : ∃ W, W = wc := ⟨_, rfl⟩
    subst hWX
    have HB0 := Lib.hid (HB.out.trans (hb0.mono HB.out.size))
    cases bad with
    | true =>
      clear hbad
      go_wp2_with (first | (go_at_call 31; go_loud ((with_reducible refine (HAW.out _).mono ?_); rintro e w4 ⟨rfl, hb4⟩; have HB4 := Lib.hid hb4; clear hb4)))
      go_ret
      exact ⟨rfl, HB0.out.trans (HB4.out.mono HB0.out.size)⟩
    | false =>
    obtain ⟨⟨k1, k2⟩, hpa, hpb⟩ := hbad (by first | rfl | trivial)
    have HMA1 := Lib.hid hpa
    have HMB1 := Lib.hid hpb
    have hq1 := blk_below H1.out hb0
    have hq2 := blk_below H2.out hb0
    have HRAX := Lib.hid (Kd.C_below HRA.out hb0)
    have HRBX := Lib.hid (Kd.C_below HRB.out hb0)
    clear g0 g1 g2 x0 y0 x1 y1 x2 y2 x3 y3 x4 y4 hpa hpb hbad
    have HQ1 := Lib.hid hq1
    have HQ2 := Lib.hid hq2
    clear hq1 hq2 hb0
    have HAL := Lib.hid HNA.out
    have HBL := Lib.hid HNB.out
    go_upto_block 0 with fail
    go_cut [7, 8, 9, 10] from 37 to 68 (fun v7 v8 v9 v10 wd => ∃ m : Nat, v7 = .int .i64 (m : Int) ∧ m = 1 + goneN a.f4 b.f4 ∧ Below WX.heap.size WX wd)
    case first =>
      go_wp2
      go_loopg [7, 8] na (fun kq v7 v8 wd => ∃ (i m : Nat), v7 = .int .i64 (m : Int) ∧ v8 = .int .i64 (i : Int) ∧ i ≤ na ∧ na - i ≤ kq ∧ m = 1 + goneN (a.f4.take i) b.f4 ∧ Below WX.heap.size WX wd)
      case atStart => exact ⟨0, 1, rfl, rfl, Nat.zero_le _, by omega, by rw [List.take_zero]; rfl, Below.refl _ _⟩
      case round =>
        obtain ⟨i, m, rfl, rfl, hin, hik, hm, hbr⟩ := hrel
        obtain ⟨WI, hWI⟩ : ∃ W, W = wr := ⟨_, rfl⟩
        subst hWI
        have HM := Lib.hid hm
        have HBI := Lib.hid hbr
        have HAI := Lib.hid (blk_below HQ1.out hbr)
        have HBBI := Lib.hid (blk_below HQ2.out hbr)
        have HCA := Lib.hid (Kd.C_below HRAX.out hbr)
        have HCB := Lib.hid (Kd.C_below HRBX.out hbr)
        have za4 : WI.cell? ⟨w.heap.size + 1, 4, none⟩ = some (.slice Aa na ca) := (blk_cell HAI.out 4).trans rfl
        have hml : m ≤ 1 + i := by have h_ := gone_le a.f4 b.f4 i; omega
        clear hm hbr
        by_cases hlt : i < na
        rotate_left
        · have d1 : decide ((i : Int) < (na : Int)) = false := decide_eq_false (by omega)
          have hie : i = na := by omega
          go_wp2
          go_meet
          case rel =>
            have h1 := HM.out
            rw [hie, ← HAL.out, List.take_length] at h1
            exact ⟨m, rfl, h1, HBI.out⟩
        · have d1 : decide ((i : Int) < (na : Int)) = true := decide_eq_true (by omega)
          have hwi : IntKind.i64.wrap ((i : Int) + 1) = ((i + 1 : Nat) : Int) := by rw [IntKind.wrap_i64]; omega
          have hwn : IntKind.i64.wrap ((m : Int) + 1) = ((m + 1 : Nat) : Int) := by rw [IntKind.wrap_i64]; have h1 := k1; omega
          have hbi : (0 : Int) ≤ (i : Int) ∧ (i : Int) < (na : Int) := by omega
          obtain ⟨ada, hada, x0, x1, x2, x3, x4, x5, x6, x7, x8, x9, x10, x11⟩ := at_T46 HCA.out (i : Int) (by omega) (by omega)
          rw [Int.toNat_natCast] at x0 x1 x2 x3 x4 x5 x6 x7 x8 x9 x10 x11
          obtain ⟨x, hx⟩ : ∃ x, rd_T46 a.f4 (i : Int) = x := ⟨_, rfl⟩
          rw [hx] at x0 x1 x2 x3 x4 x5 x6 x7 x8 x9 x10 x11
          have HEO := Lib.hid hx
          have HX0 := Lib.hid x0
          have HX1 := Lib.hid x1
          have HX2 := Lib.hid x2
          have HX3 := Lib.hid x3
          have HX4 := Lib.hid x4
          have HX5 := Lib.hid x5
          have HX6 := Lib.hid x6
          have HX7 := Lib.hid x7
          have HX8 := Lib.hid x8
          have HX9 := Lib.hid x9
          have HX10 := Lib.hid x10
          have HX11 := Lib.hid x11
          have HADO := Lib.hid hada
          clear x0 x1 x2 x3 x4 x5 x6 x7 x8 x9 x10 x11 hx hada
          cases gk with
          | zero => omega
          | succ gk =>
          obtain ⟨go, hgo⟩ : ∃ k, k = gk := ⟨_, rfl⟩
          subst hgo
          go_wp2
          clear za4 d1
          go_loopg [9, 10] nb (fun kq v9 v10 wd => ∃ (k : Nat) (q : Bool), v9 = .bool q ∧ v10 = .int .i64 (k : Int) ∧ k ≤ nb ∧ nb - k ≤ kq ∧ (b.f4.take k).any (fun y => eqC x y) = q ∧ Below WI.heap.size WI wd)
          case atStart => exact ⟨0, false, rfl, rfl, Nat.zero_le _, by omega, by rw [List.take_zero]; rfl, Below.refl _ _⟩
          case round =>
            obtain ⟨k, q, rfl, rfl, hkn, hkk, hq, hbr⟩ := hrel
            obtain ⟨WJ, hWJ⟩ : ∃ W, W = wr := ⟨_, rfl⟩
            subst hWJ
            have HQ := Lib.hid hq
            have HBJ := Lib.hid hbr
            have HAJ := Lib.hid (blk_below HAI.out hbr)
            have HBBJ := Lib.hid (blk_below HBBI.out hbr)
            have zi4 : WJ.cell? ⟨w.heap.size + 1 + 1, 4, none⟩ = some (.slice Ab nb cb) := (blk_cell HBBJ.out 4).trans rfl
            by_cases hlk : k < nb
            rotate_left
            · have d2 : decide ((k : Int) < (nb : Int)) = false := decide_eq_false (by omega)
              have hke : k = nb := by omega
              rw [hke, ← HBL.out, List.take_length, ← HEO.out] at hq
              have hs := gone_succ a.f4 b.f4 i (by rw [HAL.out]; omega) q hq
              have HS := Lib.hid hs
              clear hs hq hke hbr
              cases q with
              | true =>
                go_wp2
                go_roundg go
                case measure => omega
                case rel =>
                  have h1 := HM.out
                  have h2 := HS.out
                  exact ⟨i + 1, m, rfl, by first | rfl | (congr 1), by omega, by omega, by rw [h2]; simp only [if_true, if_false, Bool.false_eq_true]; omega, HBI.out.trans (HBJ.out.mono HBI.out.size)⟩
              | false =>
                go_wp2
                go_roundg go
                case measure => omega
                case rel =>
                  have h1 := HM.out
                  have h2 := HS.out
                  exact ⟨i + 1, m + 1, rfl, by first | rfl | (congr 1), by omega, by omega, by rw [h2]; simp only [if_true, if_false, Bool.false_eq_true]; omega, HBI.out.trans (HBJ.out.mono HBI.out.size)⟩
            · have d2 : decide ((k : Int) < (nb : Int)) = true := decide_eq_true (by omega)
              have hwk : IntKind.i64.wrap ((k : Int) + 1) = ((k + 1 : Nat) : Int) := by rw [IntKind.wrap_i64]; omega
              have hbk : (0 : Int) ≤ (k : Int) ∧ (k : Int) < (nb : Int) := by omega
              have hca := Kd.C_below HCB.out hbr
              obtain ⟨adb, hadb, y0, y1, y2, y3, y4, y5, y6, y7, y8, y9, y10, y11⟩ := at_T46 hca (k : Int) (by omega) (by omega)
              rw [Int.toNat_natCast] at y0 y1 y2 y3 y4 y5 y6 y7 y8 y9 y10 y11
              obtain ⟨y, hy⟩ : ∃ x, rd_T46 b.f4 (k : Int) = x := ⟨_, rfl⟩
              rw [hy] at y0 y1 y2 y3 y4 y5 y6 y7 y8 y9 y10 y11
              have hsn := any_succ b.f4 (fun y => eqC x y) k (by rw [HBL.out]; omega)
              rw [hq, hy] at hsn
              have HSN := Lib.hid hsn
              have HY0 := Lib.hid y0
              have HY1 := Lib.hid y1
              have HY2 := Lib.hid y2
              have HY3 := Lib.hid y3
              have HY4 := Lib.hid y4
              have HY5 := Lib.hid y5
              have HY6 := Lib.hid y6
              have HY7 := Lib.hid y7
              have HY8 := Lib.hid y8
              have HY9 := Lib.hid y9
              have HY10 := Lib.hid y10
              have HY11 := Lib.hid y11
              have hado := HADO.out
              subst hado
              subst hadb
              clear y0 y1 y2 y3 y4 y5 y6 y7 y8 y9 y10 y11 hy hsn hq hbr hca
              cases gk with
              | zero => omega
              | succ gk =>
              go_wp2
              cases q with
              | true =>
                refine wp_region_held_drew (S := fun w_ => Below WJ.heap.size WJ w_) (by kernel_rfl) (below_drew (Below.refl _ _)) (fun hS_ => ?_)
                have hS : Below WJ.heap.size WJ _ := hS_
                clear hS_
                change wpAnyH _ _ _ _ _ 15 #[false, false, false, false, false, false, false, false, false, false, false, false, false, false, false] _ _
                refine takeE 0 (some 51) #[true, false, false, false, false, false, false, false, false, false, false, false, false, false, false] hS ?_
                refine takeE 1 (some 52) #[true, true, false, false, false, false, false, false, false, false, false, false, false, false, false] hS ?_
                refine offE 2 (some 53) #[true, true, true, false, false, false, false, false, false, false, false, false, false, false, false] hS ?_
                refine offE 3 (some 54) #[true, true, true, true, false, false, false, false, false, false, false, false, false, false, false] hS ?_
                refine offE 4 (some 55) #[true, true, true, true, true, false, false, false, false, false, false, false, false, false, false] hS ?_
                refine offE 5 (some 56) #[true, true, true, true, true, true, false, false, false, false, false, false, false, false, false] hS ?_
                refine offE 6 (some 57) #[true, true, true, true, true, true, true, false, false, false, false, false, false, false, false] hS ?_
                refine offE 7 (some 58) #[true, true, true, true, true, true, true, true, false, false, false, false, false, false, false] hS ?_
                refine offE 8 (some 59) #[true, true, true, true, true, true, true, true, true, false, false, false, false, false, false] hS ?_
                refine offE 9 (some 60) #[true, true, true, true, true, true, true, true, true, true, false, false, false, false, false] hS ?_
                refine offE 10 (some 61) #[true, true, true, true, true, true, true, true, true, true, true, false, false, false, false] hS ?_
                refine offE 11 (some 62) #[true, true, true, true, true, true, true, true, true, true, true, true, false, false, false] hS ?_
                refine offE 12 (some 63) #[true, true, true, true, true, true, true, true, true, true, true, true, true, false, false] hS ?_
                refine takeE 13 (some 64) #[true, true, true, true, true, true, true, true, true, true, true, true, true, true, false] hS ?_
                refine takeE 14 (some 9) #[true, true, true, true, true, true, true, true, true, true, true, true, true, true, true] hS ?_
                refine wpAnyH_done (by kernel_rfl) ?_ _
                try go_simp
                have HE := Lib.hid hS
                clear hS
                go_wp2
                go_roundg gk
                case measure => omega
                case rel =>
                  have h1 := HSN.out
                  exact ⟨k + 1, true, by first | rfl | simp, by first | rfl | (congr 1), by omega, by omega, by rw [h1]; rfl, HBJ.out.trans (HE.out.mono HBJ.out.size)⟩
              | false =>
                have heq := fun (d : Nat) (w : World) => eqA46 d w x.f0 y.f0 x.f1 y.f1 x.f2.f0 y.f2.f0 x.f2.f1 y.f2.f1 x.f2.f2 y.f2.f2 x.f2.f3 y.f2.f3 x.f2.f4.f0 y.f2.f4.f0 x.f2.f4.f1 y.f2.f4.f1 x.f2.f4.f2 y.f2.f4.f2 x.f2.f4.f3 y.f2.f4.f3 x.f2.f5 y.f2.f5 x.f2.f6 y.f2.f6
                obtain ⟨q3, hq3⟩ : ∃ q, eqC x y = q := ⟨_, rfl⟩
                have heq2 : ∀ (d : Nat) (w : World), (Op.equalIn (d + 4) 46 (cellV x) (cellV y)).run Try.prog w = .ok q3 w := fun d w => by rw [← hq3]; exact heq d w
                have HEQ := Lib.hid heq2
                have HQ3 := Lib.hid hq3
                clear heq heq2 hq3
                refine wp_region_held_drew (S := fun w_ => Below WJ.heap.size WJ w_) (by kernel_rfl) (below_drew (Below.refl _ _)) (fun hS_ => ?_)
                have hS : Below WJ.heap.size WJ _ := hS_
                clear hS_
                change wpAnyH _ _ _ _ _ 15 #[false, false, false, false, false, false, false, false, false, false, false, false, false, false, false] _ _
                refine takeE 0 (some 51) #[true, false, false, false, false, false, false, false, false, false, false, false, false, false, false] hS ?_
                refine takeE 1 (some 52) #[true, true, false, false, false, false, false, false, false, false, false, false, false, false, false] hS ?_
                refine takeE 2 (some 53) #[true, true, true, false, false, false, false, false, false, false, false, false, false, false, false] hS ?_
                refine takeE 3 (some 54) #[true, true, true, true, false, false, false, false, false, false, false, false, false, false, false] hS ?_ (hy := fun w_ hS_ => by (replace hS_ : Below WJ.heap.size WJ w_ := hS_); have q_ := blk_below HAJ.out hS_; have z4_ : w_.cell? ⟨w.heap.size + 1, 4, none⟩ = some (.slice (some ada) na ca) := (blk_cell q_ 4).trans rfl; go_simp <;> with_reducible rfl)
                refine takeE 4 (some 55) #[true, true, true, true, true, false, false, false, false, false, false, false, false, false, false] hS ?_
                refine takeE 5 (some 56) #[true, true, true, true, true, true, false, false, false, false, false, false, false, false, false] hS ?_
                refine takeE 6 (some 57) #[true, true, true, true, true, true, true, false, false, false, false, false, false, false, false] hS ?_ (hy := fun w_ hS_ => by (replace hS_ : Below WJ.heap.size WJ w_ := hS_); have x0_ := below_cell (HBJ.out.trans (hS_.mono HBJ.out.size)) HX0.out; have x1_ := below_cell (HBJ.out.trans (hS_.mono HBJ.out.size)) HX1.out; have x2_ := below_cell (HBJ.out.trans (hS_.mono HBJ.out.size)) HX2.out; have x3_ := below_cell (HBJ.out.trans (hS_.mono HBJ.out.size)) HX3.out; have x4_ := below_cell (HBJ.out.trans (hS_.mono HBJ.out.size)) HX4.out; have x5_ := below_cell (HBJ.out.trans (hS_.mono HBJ.out.size)) HX5.out; have x6_ := below_cell (HBJ.out.trans (hS_.mono HBJ.out.size)) HX6.out; have x7_ := below_cell (HBJ.out.trans (hS_.mono HBJ.out.size)) HX7.out; have x8_ := below_cell (HBJ.out.trans (hS_.mono HBJ.out.size)) HX8.out; have x9_ := below_cell (HBJ.out.trans (hS_.mono HBJ.out.size)) HX9.out; have x10_ := below_cell (HBJ.out.trans (hS_.mono HBJ.out.size)) HX10.out; have x11_ := below_cell (HBJ.out.trans (hS_.mono HBJ.out.size)) HX11.out; go_simp <;> with_reducible rfl)
                refine takeE 7 (some 58) #[true, true, true, true, true, true, true, true, false, false, false, false, false, false, false] hS ?_
                refine takeE 8 (some 59) #[true, true, true, true, true, true, true, true, true, false, false, false, false, false, false] hS ?_ (hy := fun w_ hS_ => by (replace hS_ : Below WJ.heap.size WJ w_ := hS_); have q_ := blk_below HBBJ.out hS_; have z4_ : w_.cell? ⟨w.heap.size + 1 + 1, 4, none⟩ = some (.slice (some adb) nb cb) := (blk_cell q_ 4).trans rfl; go_simp <;> with_reducible rfl)
                refine takeE 9 (some 60) #[true, true, true, true, true, true, true, true, true, true, false, false, false, false, false] hS ?_
                refine takeE 10 (some 61) #[true, true, true, true, true, true, true, true, true, true, true, false, false, false, false] hS ?_
                refine takeE 11 (some 62) #[true, true, true, true, true, true, true, true, true, true, true, true, false, false, false] hS ?_ (hy := fun w_ hS_ => by (replace hS_ : Below WJ.heap.size WJ w_ := hS_); have y0_ := below_cell hS_ HY0.out; have y1_ := below_cell hS_ HY1.out; have y2_ := below_cell hS_ HY2.out; have y3_ := below_cell hS_ HY3.out; have y4_ := below_cell hS_ HY4.out; have y5_ := below_cell hS_ HY5.out; have y6_ := below_cell hS_ HY6.out; have y7_ := below_cell hS_ HY7.out; have y8_ := below_cell hS_ HY8.out; have y9_ := below_cell hS_ HY9.out; have y10_ := below_cell hS_ HY10.out; have y11_ := below_cell hS_ HY11.out; go_simp <;> with_reducible rfl)
                refine takeE 12 (some 63) #[true, true, true, true, true, true, true, true, true, true, true, true, true, false, false] hS ?_ (hy := fun w_ hS_ => by have eq_ := HEQ.out; go_simp <;> with_reducible rfl)
                refine takeE 13 (some 64) #[true, true, true, true, true, true, true, true, true, true, true, true, true, true, false] hS ?_
                refine takeE 14 (some 9) #[true, true, true, true, true, true, true, true, true, true, true, true, true, true, true] hS ?_
                refine wpAnyH_done (by kernel_rfl) ?_ _
                try go_simp
                have HE := Lib.hid hS
                clear hS
                go_wp2
                go_roundg gk
                case measure => omega
                case rel =>
                  have h1 := HSN.out
                  exact ⟨k + 1, q3, by first | rfl | simp, by first | rfl | (congr 1), by omega, by omega, by rw [h1]; rw [← HQ3.out]; rfl, HBJ.out.trans (HE.out.mono HBJ.out.size)⟩
    case rest =>
      obtain ⟨m1, rfl, hm1, hbs⟩ := hcut
      obtain ⟨WS, hWS⟩ : ∃ W, W = wc := ⟨_, rfl⟩
      subst hWS
      have HM1 := Lib.hid hm1
      have HBS := Lib.hid (HB0.out.trans (hbs.mono HB0.out.size))
      have HQ1S := Lib.hid (blk_below HQ1.out hbs)
      have HQ2S := Lib.hid (blk_below HQ2.out hbs)
      have HRAS := Lib.hid (Kd.C_below HRAX.out hbs)
      have HRBS := Lib.hid (Kd.C_below HRBX.out hbs)
      have hm1l : m1 ≤ 81 := by have h1 := gone_le a.f4 b.f4 na; rw [← HAL.out, List.take_length, HAL.out] at h1; omega
      clear hm1 hbs
      go_upto_block 4 with fail
      go_cut [7, 11, 12, 13] from 69 to 117 (fun v7 v11 v12 v13 wd => ∃ m : Nat, v7 = .int .i64 (m : Int) ∧ m = m1 + newN a.f4 b.f4 ∧ Below WS.heap.size WS wd)
      case first =>
        go_wp2
        go_loopg [7, 11] nb (fun kq v7 v11 wd => ∃ (i m : Nat), v7 = .int .i64 (m : Int) ∧ v11 = .int .i64 (i : Int) ∧ i ≤ nb ∧ nb - i ≤ kq ∧ m = m1 + newN a.f4 (b.f4.take i) ∧ Below WS.heap.size WS wd)
        case atStart => exact ⟨0, m1, rfl, rfl, Nat.zero_le _, by omega, by rw [List.take_zero]; rfl, Below.refl _ _⟩
        case round =>
          obtain ⟨i, m, rfl, rfl, hin, hik, hm, hbr⟩ := hrel
          obtain ⟨WI, hWI⟩ : ∃ W, W = wr := ⟨_, rfl⟩
          subst hWI
          have HM := Lib.hid hm
          have HBI := Lib.hid hbr
          have HAI := Lib.hid (blk_below HQ1S.out hbr)
          have HBBI := Lib.hid (blk_below HQ2S.out hbr)
          have HCA := Lib.hid (Kd.C_below HRAS.out hbr)
          have HCB := Lib.hid (Kd.C_below HRBS.out hbr)
          have zb4 : WI.cell? ⟨w.heap.size + 1 + 1, 4, none⟩ = some (.slice Ab nb cb) := (blk_cell HBBI.out 4).trans rfl
          have hml : m ≤ m1 + i := by have h_ := new_le a.f4 b.f4 i; omega
          clear hm hbr
          by_cases hlt : i < nb
          rotate_left
          · have d1 : decide ((i : Int) < (nb : Int)) = false := decide_eq_false (by omega)
            have hie : i = nb := by omega
            go_wp2
            go_meet
            case rel =>
              have h1 := HM.out
              rw [hie, ← HBL.out, List.take_length] at h1
              exact ⟨m, rfl, h1, HBI.out⟩
          · have d1 : decide ((i : Int) < (nb : Int)) = true := decide_eq_true (by omega)
            have hwi : IntKind.i64.wrap ((i : Int) + 1) = ((i + 1 : Nat) : Int) := by rw [IntKind.wrap_i64]; omega
            have hwn : IntKind.i64.wrap ((m : Int) + 1) = ((m + 1 : Nat) : Int) := by rw [IntKind.wrap_i64]; have h1 := k2; omega
            have hbi : (0 : Int) ≤ (i : Int) ∧ (i : Int) < (nb : Int) := by omega
            obtain ⟨adb, hadb, y0, y1, y2, y3, y4, y5, y6, y7, y8, y9, y10, y11⟩ := at_T46 HCB.out (i : Int) (by omega) (by omega)
            rw [Int.toNat_natCast] at y0 y1 y2 y3 y4 y5 y6 y7 y8 y9 y10 y11
            obtain ⟨y, hy⟩ : ∃ x, rd_T46 b.f4 (i : Int) = x := ⟨_, rfl⟩
            rw [hy] at y0 y1 y2 y3 y4 y5 y6 y7 y8 y9 y10 y11
            have HEO := Lib.hid hy
            have HY0 := Lib.hid y0
            have HY1 := Lib.hid y1
            have HY2 := Lib.hid y2
            have HY3 := Lib.hid y3
            have HY4 := Lib.hid y4
            have HY5 := Lib.hid y5
            have HY6 := Lib.hid y6
            have HY7 := Lib.hid y7
            have HY8 := Lib.hid y8
            have HY9 := Lib.hid y9
            have HY10 := Lib.hid y10
            have HY11 := Lib.hid y11
            have HADO := Lib.hid hadb
            clear y0 y1 y2 y3 y4 y5 y6 y7 y8 y9 y10 y11 hy hadb
            cases gk with
            | zero => omega
            | succ gk =>
            obtain ⟨go, hgo⟩ : ∃ k, k = gk := ⟨_, rfl⟩
            subst hgo
            go_wp2
            clear zb4 d1
            go_loopg [12, 13] na (fun kq v12 v13 wd => ∃ (k : Nat) (q : Bool), v12 = .bool q ∧ v13 = .int .i64 (k : Int) ∧ k ≤ na ∧ na - k ≤ kq ∧ (a.f4.take k).any (fun x => sameW x y) = q ∧ Below WI.heap.size WI wd)
            case atStart => exact ⟨0, false, rfl, rfl, Nat.zero_le _, by omega, by rw [List.take_zero]; rfl, Below.refl _ _⟩
            case round =>
              obtain ⟨k, q, rfl, rfl, hkn, hkk, hq, hbr⟩ := hrel
              obtain ⟨WJ, hWJ⟩ : ∃ W, W = wr := ⟨_, rfl⟩
              subst hWJ
              have HQ := Lib.hid hq
              have HBJ := Lib.hid hbr
              have HAJ := Lib.hid (blk_below HAI.out hbr)
              have HBBJ := Lib.hid (blk_below HBBI.out hbr)
              have zi4 : WJ.cell? ⟨w.heap.size + 1, 4, none⟩ = some (.slice Aa na ca) := (blk_cell HAJ.out 4).trans rfl
              by_cases hlk : k < na
              rotate_left
              · have d2 : decide ((k : Int) < (na : Int)) = false := decide_eq_false (by omega)
                have hke : k = na := by omega
                rw [hke, ← HAL.out, List.take_length, ← HEO.out] at hq
                have hs := new_succ a.f4 b.f4 i (by rw [HBL.out]; omega) q hq
                have HS := Lib.hid hs
                clear hs hq hke hbr
                cases q with
                | true =>
                  go_wp2
                  go_roundg go
                  case measure => omega
                  case rel =>
                    have h1 := HM.out
                    have h2 := HS.out
                    exact ⟨i + 1, m, rfl, by first | rfl | (congr 1), by omega, by omega, by rw [h2]; simp only [if_true, if_false, Bool.false_eq_true]; omega, HBI.out.trans (HBJ.out.mono HBI.out.size)⟩
                | false =>
                  go_wp2
                  go_roundg go
                  case measure => omega
                  case rel =>
                    have h1 := HM.out
                    have h2 := HS.out
                    exact ⟨i + 1, m + 1, rfl, by first | rfl | (congr 1), by omega, by omega, by rw [h2]; simp only [if_true, if_false, Bool.false_eq_true]; omega, HBI.out.trans (HBJ.out.mono HBI.out.size)⟩
              · have d2 : decide ((k : Int) < (na : Int)) = true := decide_eq_true (by omega)
                have hwk : IntKind.i64.wrap ((k : Int) + 1) = ((k + 1 : Nat) : Int) := by rw [IntKind.wrap_i64]; omega
                have hbk : (0 : Int) ≤ (k : Int) ∧ (k : Int) < (na : Int) := by omega
                have hca := Kd.C_below HCA.out hbr
                obtain ⟨ada, hada, x0, x1, x2, x3, x4, x5, x6, x7, x8, x9, x10, x11⟩ := at_T46 hca (k : Int) (by omega) (by omega)
                rw [Int.toNat_natCast] at x0 x1 x2 x3 x4 x5 x6 x7 x8 x9 x10 x11
                obtain ⟨x, hx⟩ : ∃ x, rd_T46 a.f4 (k : Int) = x := ⟨_, rfl⟩
                rw [hx] at x0 x1 x2 x3 x4 x5 x6 x7 x8 x9 x10 x11
                have hsn := any_succ a.f4 (fun x => sameW x y) k (by rw [HAL.out]; omega)
                rw [hq, hx] at hsn
                have HSN := Lib.hid hsn
                have HX0 := Lib.hid x0
                have HX1 := Lib.hid x1
                have HX2 := Lib.hid x2
                have HX3 := Lib.hid x3
                have HX4 := Lib.hid x4
                have HX5 := Lib.hid x5
                have HX6 := Lib.hid x6
                have HX7 := Lib.hid x7
                have HX8 := Lib.hid x8
                have HX9 := Lib.hid x9
                have HX10 := Lib.hid x10
                have HX11 := Lib.hid x11
                have hado := HADO.out
                subst hado
                subst hada
                clear x0 x1 x2 x3 x4 x5 x6 x7 x8 x9 x10 x11 hx hsn hq hbr hca
                cases gk with
                | zero => omega
                | succ gk =>
                go_wp2
                cases q with
                | true =>
                  refine wp_region_held_drew (S := fun w_ => Below WJ.heap.size WJ w_) (by kernel_rfl) (below_drew (Below.refl _ _)) (fun hS_ => ?_)
                  have hS : Below WJ.heap.size WJ _ := hS_
                  clear hS_
                  change wpAnyH _ _ _ _ _ 32 #[false, false, false, false, false, false, false, false, false, false, false, false, false, false, false, false, false, false, false, false, false, false, false, false, false, false, false, false, false, false, false, false] _ _
                  refine takeE 0 (some 83) #[true, false, false, false, false, false, false, false, false, false, false, false, false, false, false, false, false, false, false, false, false, false, false, false, false, false, false, false, false, false, false, false] hS ?_
                  refine takeE 1 (some 84) #[true, true, false, false, false, false, false, false, false, false, false, false, false, false, false, false, false, false, false, false, false, false, false, false, false, false, false, false, false, false, false, false] hS ?_
                  refine offE 2 (some 85) #[true, true, true, false, false, false, false, false, false, false, false, false, false, false, false, false, false, false, false, false, false, false, false, false, false, false, false, false, false, false, false, false] hS ?_
                  refine offE 3 (some 86) #[true, true, true, true, false, false, false, false, false, false, false, false, false, false, false, false, false, false, false, false, false, false, false, false, false, false, false, false, false, false, false, false] hS ?_
                  refine offE 4 (some 87) #[true, true, true, true, true, false, false, false, false, false, false, false, false, false, false, false, false, false, false, false, false, false, false, false, false, false, false, false, false, false, false, false] hS ?_
                  refine offE 5 (some 88) #[true, true, true, true, true, true, false, false, false, false, false, false, false, false, false, false, false, false, false, false, false, false, false, false, false, false, false, false, false, false, false, false] hS ?_
                  refine offE 6 (some 89) #[true, true, true, true, true, true, true, false, false, false, false, false, false, false, false, false, false, false, false, false, false, false, false, false, false, false, false, false, false, false, false, false] hS ?_
                  refine offE 7 (some 90) #[true, true, true, true, true, true, true, true, false, false, false, false, false, false, false, false, false, false, false, false, false, false, false, false, false, false, false, false, false, false, false, false] hS ?_
                  refine offE 8 (some 91) #[true, true, true, true, true, true, true, true, true, false, false, false, false, false, false, false, false, false, false, false, false, false, false, false, false, false, false, false, false, false, false, false] hS ?_
                  refine offE 9 (some 92) #[true, true, true, true, true, true, true, true, true, true, false, false, false, false, false, false, false, false, false, false, false, false, false, false, false, false, false, false, false, false, false, false] hS ?_
                  refine offE 10 (some 93) #[true, true, true, true, true, true, true, true, true, true, true, false, false, false, false, false, false, false, false, false, false, false, false, false, false, false, false, false, false, false, false, false] hS ?_
                  refine offE 11 (some 94) #[true, true, true, true, true, true, true, true, true, true, true, true, false, false, false, false, false, false, false, false, false, false, false, false, false, false, false, false, false, false, false, false] hS ?_
                  refine offE 12 (some 95) #[true, true, true, true, true, true, true, true, true, true, true, true, true, false, false, false, false, false, false, false, false, false, false, false, false, false, false, false, false, false, false, false] hS ?_
                  refine offE 13 (some 96) #[true, true, true, true, true, true, true, true, true, true, true, true, true, true, false, false, false, false, false, false, false, false, false, false, false, false, false, false, false, false, false, false] hS ?_
                  refine offE 14 (some 97) #[true, true, true, true, true, true, true, true, true, true, true, true, true, true, true, false, false, false, false, false, false, false, false, false, false, false, false, false, false, false, false, false] hS ?_
                  refine offE 15 (some 98) #[true, true, true, true, true, true, true, true, true, true, true, true, true, true, true, true, false, false, false, false, false, false, false, false, false, false, false, false, false, false, false, false] hS ?_
                  refine offE 16 (some 99) #[true, true, true, true, true, true, true, true, true, true, true, true, true, true, true, true, true, false, false, false, false, false, false, false, false, false, false, false, false, false, false, false] hS ?_
                  refine offE 17 (some 100) #[true, true, true, true, true, true, true, true, true, true, true, true, true, true, true, true, true, true, false, false, false, false, false, false, false, false, false, false, false, false, false, false] hS ?_
                  refine offE 18 (some 101) #[true, true, true, true, true, true, true, true, true, true, true, true, true, true, true, true, true, true, true, false, false, false, false, false, false, false, false, false, false, false, false, false] hS ?_
                  refine offE 19 (some 102) #[true, true, true, true, true, true, true, true, true, true, true, true, true, true, true, true, true, true, true, true, false, false, false, false, false, false, false, false, false, false, false, false] hS ?_
                  refine offE 20 (some 103) #[true, true, true, true, true, true, true, true, true, true, true, true, true, true, true, true, true, true, true, true, true, false, false, false, false, false, false, false, false, false, false, false] hS ?_
                  refine offE 21 (some 104) #[true, true, true, true, true, true, true, true, true, true, true, true, true, true, true, true, true, true, true, true, true, true, false, false, false, false, false, false, false, false, false, false] hS ?_
                  refine offE 22 (some 105) #[true, true, true, true, true, true, true, true, true, true, true, true, true, true, true, true, true, true, true, true, true, true, true, false, false, false, false, false, false, false, false, false] hS ?_
                  refine offE 23 (some 106) #[true, true, true, true, true, true, true, true, true, true, true, true, true, true, true, true, true, true, true, true, true, true, true, true, false, false, false, false, false, false, false, false] hS ?_
                  refine offE 24 (some 107) #[true, true, true, true, true, true, true, true, true, true, true, true, true, true, true, true, true, true, true, true, true, true, true, true, true, false, false, false, false, false, false, false] hS ?_
                  refine offE 25 (some 108) #[true, true, true, true, true, true, true, true, true, true, true, true, true, true, true, true, true, true, true, true, true, true, true, true, true, true, false, false, false, false, false, false] hS ?_
                  refine offE 26 (some 109) #[true, true, true, true, true, true, true, true, true, true, true, true, true, true, true, true, true, true, true, true, true, true, true, true, true, true, true, false, false, false, false, false] hS ?_
                  refine offE 27 (some 110) #[true, true, true, true, true, true, true, true, true, true, true, true, true, true, true, true, true, true, true, true, true, true, true, true, true, true, true, true, false, false, false, false] hS ?_
                  refine offE 28 (some 111) #[true, true, true, true, true, true, true, true, true, true, true, true, true, true, true, true, true, true, true, true, true, true, true, true, true, true, true, true, true, false, false, false] hS ?_
                  refine offE 29 (some 112) #[true, true, true, true, true, true, true, true, true, true, true, true, true, true, true, true, true, true, true, true, true, true, true, true, true, true, true, true, true, true, false, false] hS ?_
                  refine takeE 30 (some 113) #[true, true, true, true, true, true, true, true, true, true, true, true, true, true, true, true, true, true, true, true, true, true, true, true, true, true, true, true, true, true, true, false] hS ?_
                  refine takeE 31 (some 12) #[true, true, true, true, true, true, true, true, true, true, true, true, true, true, true, true, true, true, true, true, true, true, true, true, true, true, true, true, true, true, true, true] hS ?_
                  refine wpAnyH_done (by kernel_rfl) ?_ _
                  try go_simp
                  have HE := Lib.hid hS
                  clear hS
                  go_wp2
                  go_roundg gk
                  case measure => omega
                  case rel =>
                    have h1 := HSN.out
                    exact ⟨k + 1, true, by first | rfl | simp, by first | rfl | (congr 1), by omega, by omega, by rw [h1]; rfl, HBJ.out.trans (HE.out.mono HBJ.out.size)⟩
                | false =>
                  obtain ⟨q1, hq1⟩ : ∃ q, (x.f0 == y.f0) = q := ⟨_, rfl⟩
                  have HK0 := Lib.hid hq1
                  clear hq1
                  cases q1 with
                  | false =>
                    refine wp_region_held_drew (S := fun w_ => Below WJ.heap.size WJ w_) (by kernel_rfl) (below_drew (Below.refl _ _)) (fun hS_ => ?_)
                    have hS : Below WJ.heap.size WJ _ := hS_
                    clear hS_
                    change wpAnyH _ _ _ _ _ 32 #[false, false, false, false, false, false, false, false, false, false, false, false, false, false, false, false, false, false, false, false, false, false, false, false, false, false, false, false, false, false, false, false] _ _
                    refine takeE 0 (some 83) #[true, false, false, false, false, false, false, false, false, false, false, false, false, false, false, false, false, false, false, false, false, false, false, false, false, false, false, false, false, false, false, false] hS ?_
                    refine takeE 1 (some 84) #[true, true, false, false, false, false, false, false, false, false, false, false, false, false, false, false, false, false, false, false, false, false, false, false, false, false, false, false, false, false, false, false] hS ?_
                    refine takeE 2 (some 85) #[true, true, true, false, false, false, false, false, false, false, false, false, false, false, false, false, false, false, false, false, false, false, false, false, false, false, false, false, false, false, false, false] hS ?_
                    refine takeE 3 (some 86) #[true, true, true, true, false, false, false, false, false, false, false, false, false, false, false, false, false, false, false, false, false, false, false, false, false, false, false, false, false, false, false, false] hS ?_ (hy := fun w_ hS_ => by (replace hS_ : Below WJ.heap.size WJ w_ := hS_); have q_ := blk_below HAJ.out hS_; have z4_ : w_.cell? ⟨w.heap.size + 1, 4, none⟩ = some (.slice (some ada) na ca) := (blk_cell q_ 4).trans rfl; go_simp <;> with_reducible rfl)
                    refine takeE 4 (some 87) #[true, true, true, true, true, false, false, false, false, false, false, false, false, false, false, false, false, false, false, false, false, false, false, false, false, false, false, false, false, false, false, false] hS ?_
                    refine takeE 5 (some 88) #[true, true, true, true, true, true, false, false, false, false, false, false, false, false, false, false, false, false, false, false, false, false, false, false, false, false, false, false, false, false, false, false] hS ?_
                    refine takeE 6 (some 89) #[true, true, true, true, true, true, true, false, false, false, false, false, false, false, false, false, false, false, false, false, false, false, false, false, false, false, false, false, false, false, false, false] hS ?_
                    refine takeE 7 (some 90) #[true, true, true, true, true, true, true, true, false, false, false, false, false, false, false, false, false, false, false, false, false, false, false, false, false, false, false, false, false, false, false, false] hS ?_ (hy := fun w_ hS_ => by (replace hS_ : Below WJ.heap.size WJ w_ := hS_); have x0_ := below_cell hS_ HX0.out; go_simp <;> with_reducible rfl)
                    refine takeE 8 (some 91) #[true, true, true, true, true, true, true, true, true, false, false, false, false, false, false, false, false, false, false, false, false, false, false, false, false, false, false, false, false, false, false, false] hS ?_
                    refine takeE 9 (some 92) #[true, true, true, true, true, true, true, true, true, true, false, false, false, false, false, false, false, false, false, false, false, false, false, false, false, false, false, false, false, false, false, false] hS ?_ (hy := fun w_ hS_ => by (replace hS_ : Below WJ.heap.size WJ w_ := hS_); have q_ := blk_below HBBJ.out hS_; have z4_ : w_.cell? ⟨w.heap.size + 1 + 1, 4, none⟩ = some (.slice (some adb) nb cb) := (blk_cell q_ 4).trans rfl; go_simp <;> with_reducible rfl)
                    refine takeE 10 (some 93) #[true, true, true, true, true, true, true, true, true, true, true, false, false, false, false, false, false, false, false, false, false, false, false, false, false, false, false, false, false, false, false, false] hS ?_
                    refine takeE 11 (some 94) #[true, true, true, true, true, true, true, true, true, true, true, true, false, false, false, false, false, false, false, false, false, false, false, false, false, false, false, false, false, false, false, false] hS ?_
                    refine takeE 12 (some 95) #[true, true, true, true, true, true, true, true, true, true, true, true, true, false, false, false, false, false, false, false, false, false, false, false, false, false, false, false, false, false, false, false] hS ?_
                    refine takeE 13 (some 96) #[true, true, true, true, true, true, true, true, true, true, true, true, true, true, false, false, false, false, false, false, false, false, false, false, false, false, false, false, false, false, false, false] hS ?_ (hy := fun w_ hS_ => by (replace hS_ : Below WJ.heap.size WJ w_ := hS_); have y0_ := below_cell (HBJ.out.trans (hS_.mono HBJ.out.size)) HY0.out; go_simp <;> with_reducible rfl)
                    refine takeE 14 (some 97) #[true, true, true, true, true, true, true, true, true, true, true, true, true, true, true, false, false, false, false, false, false, false, false, false, false, false, false, false, false, false, false, false] hS ?_ (hy := fun w_ hS_ => by have e_ := HK0.out; go_simp <;> with_reducible rfl)
                    refine takeE 15 (some 98) #[true, true, true, true, true, true, true, true, true, true, true, true, true, true, true, true, false, false, false, false, false, false, false, false, false, false, false, false, false, false, false, false] hS ?_
                    refine offE 16 (some 99) #[true, true, true, true, true, true, true, true, true, true, true, true, true, true, true, true, true, false, false, false, false, false, false, false, false, false, false, false, false, false, false, false] hS ?_
                    refine offE 17 (some 100) #[true, true, true, true, true, true, true, true, true, true, true, true, true, true, true, true, true, true, false, false, false, false, false, false, false, false, false, false, false, false, false, false] hS ?_
                    refine offE 18 (some 101) #[true, true, true, true, true, true, true, true, true, true, true, true, true, true, true, true, true, true, true, false, false, false, false, false, false, false, false, false, false, false, false, false] hS ?_
                    refine offE 19 (some 102) #[true, true, true, true, true, true, true, true, true, true, true, true, true, true, true, true, true, true, true, true, false, false, false, false, false, false, false, false, false, false, false, false] hS ?_
                    refine offE 20 (some 103) #[true, true, true, true, true, true, true, true, true, true, true, true, true, true, true, true, true, true, true, true, true, false, false, false, false, false, false, false, false, false, false, false] hS ?_
                    refine offE 21 (some 104) #[true, true, true, true, true, true, true, true, true, true, true, true, true, true, true, true, true, true, true, true, true, true, false, false, false, false, false, false, false, false, false, false] hS ?_
                    refine offE 22 (some 105) #[true, true, true, true, true, true, true, true, true, true, true, true, true, true, true, true, true, true, true, true, true, true, true, false, false, false, false, false, false, false, false, false] hS ?_
                    refine offE 23 (some 106) #[true, true, true, true, true, true, true, true, true, true, true, true, true, true, true, true, true, true, true, true, true, true, true, true, false, false, false, false, false, false, false, false] hS ?_
                    refine offE 24 (some 107) #[true, true, true, true, true, true, true, true, true, true, true, true, true, true, true, true, true, true, true, true, true, true, true, true, true, false, false, false, false, false, false, false] hS ?_
                    refine offE 25 (some 108) #[true, true, true, true, true, true, true, true, true, true, true, true, true, true, true, true, true, true, true, true, true, true, true, true, true, true, false, false, false, false, false, false] hS ?_
                    refine offE 26 (some 109) #[true, true, true, true, true, true, true, true, true, true, true, true, true, true, true, true, true, true, true, true, true, true, true, true, true, true, true, false, false, false, false, false] hS ?_
                    refine offE 27 (some 110) #[true, true, true, true, true, true, true, true, true, true, true, true, true, true, true, true, true, true, true, true, true, true, true, true, true, true, true, true, false, false, false, false] hS ?_
                    refine offE 28 (some 111) #[true, true, true, true, true, true, true, true, true, true, true, true, true, true, true, true, true, true, true, true, true, true, true, true, true, true, true, true, true, false, false, false] hS ?_
                    refine takeE 29 (some 112) #[true, true, true, true, true, true, true, true, true, true, true, true, true, true, true, true, true, true, true, true, true, true, true, true, true, true, true, true, true, true, false, false] hS ?_
                    refine takeE 30 (some 113) #[true, true, true, true, true, true, true, true, true, true, true, true, true, true, true, true, true, true, true, true, true, true, true, true, true, true, true, true, true, true, true, false] hS ?_
                    refine takeE 31 (some 12) #[true, true, true, true, true, true, true, true, true, true, true, true, true, true, true, true, true, true, true, true, true, true, true, true, true, true, true, true, true, true, true, true] hS ?_
                    refine wpAnyH_done (by kernel_rfl) ?_ _
                    try go_simp
                    have HE := Lib.hid hS
                    clear hS
                    go_wp2
                    go_roundg gk
                    case measure => omega
                    case rel =>
                      have h1 := HSN.out
                      exact ⟨k + 1, false, by first | rfl | simp, by first | rfl | (congr 1), by omega, by omega, by rw [h1]; unfold sameW; rw [HK0.out]; rfl, HBJ.out.trans (HE.out.mono HBJ.out.size)⟩
                  | true =>
                    obtain ⟨q2, hq2⟩ : ∃ q, (x.f1 == y.f1) = q := ⟨_, rfl⟩
                    have HK1 := Lib.hid hq2
                    clear hq2
                    refine wp_region_held_drew (S := fun w_ => Below WJ.heap.size WJ w_) (by kernel_rfl) (below_drew (Below.refl _ _)) (fun hS_ => ?_)
                    have hS : Below WJ.heap.size WJ _ := hS_
                    clear hS_
                    change wpAnyH _ _ _ _ _ 32 #[false, false, false, false, false, false, false, false, false, false, false, false, false, false, false, false, false, false, false, false, false, false, false, false, false, false, false, false, false, false, false, false] _ _
                    refine takeE 0 (some 83) #[true, false, false, false, false, false, false, false, false, false, false, false, false, false, false, false, false, false, false, false, false, false, false, false, false, false, false, false, false, false, false, false] hS ?_
                    refine takeE 1 (some 84) #[true, true, false, false, false, false, false, false, false, false, false, false, false, false, false, false, false, false, false, false, false, false, false, false, false, false, false, false, false, false, false, false] hS ?_
                    refine takeE 2 (some 85) #[true, true, true, false, false, false, false, false, false, false, false, false, false, false, false, false, false, false, false, false, false, false, false, false, false, false, false, false, false, false, false, false] hS ?_
                    refine takeE 3 (some 86) #[true, true, true, true, false, false, false, false, false, false, false, false, false, false, false, false, false, false, false, false, false, false, false, false, false, false, false, false, false, false, false, false] hS ?_ (hy := fun w_ hS_ => by (replace hS_ : Below WJ.heap.size WJ w_ := hS_); have q_ := blk_below HAJ.out hS_; have z4_ : w_.cell? ⟨w.heap.size + 1, 4, none⟩ = some (.slice (some ada) na ca) := (blk_cell q_ 4).trans rfl; go_simp <;> with_reducible rfl)
                    refine takeE 4 (some 87) #[true, true, true, true, true, false, false, false, false, false, false, false, false, false, false, false, false, false, false, false, false, false, false, false, false, false, false, false, false, false, false, false] hS ?_
                    refine takeE 5 (some 88) #[true, true, true, true, true, true, false, false, false, false, false, false, false, false, false, false, false, false, false, false, false, false, false, false, false, false, false, false, false, false, false, false] hS ?_
                    refine takeE 6 (some 89) #[true, true, true, true, true, true, true, false, false, false, false, false, false, false, false, false, false, false, false, false, false, false, false, false, false, false, false, false, false, false, false, false] hS ?_
                    refine takeE 7 (some 90) #[true, true, true, true, true, true, true, true, false, false, false, false, false, false, false, false, false, false, false, false, false, false, false, false, false, false, false, false, false, false, false, false] hS ?_ (hy := fun w_ hS_ => by (replace hS_ : Below WJ.heap.size WJ w_ := hS_); have x0_ := below_cell hS_ HX0.out; go_simp <;> with_reducible rfl)
                    refine takeE 8 (some 91) #[true, true, true, true, true, true, true, true, true, false, false, false, false, false, false, false, false, false, false, false, false, false, false, false, false, false, false, false, false, false, false, false] hS ?_
                    refine takeE 9 (some 92) #[true, true, true, true, true, true, true, true, true, true, false, false, false, false, false, false, false, false, false, false, false, false, false, false, false, false, false, false, false, false, false, false] hS ?_ (hy := fun w_ hS_ => by (replace hS_ : Below WJ.heap.size WJ w_ := hS_); have q_ := blk_below HBBJ.out hS_; have z4_ : w_.cell? ⟨w.heap.size + 1 + 1, 4, none⟩ = some (.slice (some adb) nb cb) := (blk_cell q_ 4).trans rfl; go_simp <;> with_reducible rfl)
                    refine takeE 10 (some 93) #[true, true, true, true, true, true, true, true, true, true, true, false, false, false, false, false, false, false, false, false, false, false, false, false, false, false, false, false, false, false, false, false] hS ?_
                    refine takeE 11 (some 94) #[true, true, true, true, true, true, true, true, true, true, true, true, false, false, false, false, false, false, false, false, false, false, false, false, false, false, false, false, false, false, false, false] hS ?_
                    refine takeE 12 (some 95) #[true, true, true, true, true, true, true, true, true, true, true, true, true, false, false, false, false, false, false, false, false, false, false, false, false, false, false, false, false, false, false, false] hS ?_
                    refine takeE 13 (some 96) #[true, true, true, true, true, true, true, true, true, true, true, true, true, true, false, false, false, false, false, false, false, false, false, false, false, false, false, false, false, false, false, false] hS ?_ (hy := fun w_ hS_ => by (replace hS_ : Below WJ.heap.size WJ w_ := hS_); have y0_ := below_cell (HBJ.out.trans (hS_.mono HBJ.out.size)) HY0.out; go_simp <;> with_reducible rfl)
                    refine takeE 14 (some 97) #[true, true, true, true, true, true, true, true, true, true, true, true, true, true, true, false, false, false, false, false, false, false, false, false, false, false, false, false, false, false, false, false] hS ?_ (hy := fun w_ hS_ => by have e_ := HK0.out; go_simp <;> with_reducible rfl)
                    refine takeE 15 (some 98) #[true, true, true, true, true, true, true, true, true, true, true, true, true, true, true, true, false, false, false, false, false, false, false, false, false, false, false, false, false, false, false, false] hS ?_
                    refine takeE 16 (some 99) #[true, true, true, true, true, true, true, true, true, true, true, true, true, true, true, true, true, false, false, false, false, false, false, false, false, false, false, false, false, false, false, false] hS ?_
                    refine takeE 17 (some 100) #[true, true, true, true, true, true, true, true, true, true, true, true, true, true, true, true, true, true, false, false, false, false, false, false, false, false, false, false, false, false, false, false] hS ?_ (hy := fun w_ hS_ => by (replace hS_ : Below WJ.heap.size WJ w_ := hS_); have q_ := blk_below HAJ.out hS_; have z4_ : w_.cell? ⟨w.heap.size + 1, 4, none⟩ = some (.slice (some ada) na ca) := (blk_cell q_ 4).trans rfl; go_simp <;> with_reducible rfl)
                    refine takeE 18 (some 101) #[true, true, true, true, true, true, true, true, true, true, true, true, true, true, true, true, true, true, true, false, false, false, false, false, false, false, false, false, false, false, false, false] hS ?_
                    refine takeE 19 (some 102) #[true, true, true, true, true, true, true, true, true, true, true, true, true, true, true, true, true, true, true, true, false, false, false, false, false, false, false, false, false, false, false, false] hS ?_
                    refine takeE 20 (some 103) #[true, true, true, true, true, true, true, true, true, true, true, true, true, true, true, true, true, true, true, true, true, false, false, false, false, false, false, false, false, false, false, false] hS ?_
                    refine takeE 21 (some 104) #[true, true, true, true, true, true, true, true, true, true, true, true, true, true, true, true, true, true, true, true, true, true, false, false, false, false, false, false, false, false, false, false] hS ?_ (hy := fun w_ hS_ => by (replace hS_ : Below WJ.heap.size WJ w_ := hS_); have x1_ := below_cell hS_ HX1.out; go_simp <;> with_reducible rfl)
                    refine takeE 22 (some 105) #[true, true, true, true, true, true, true, true, true, true, true, true, true, true, true, true, true, true, true, true, true, true, true, false, false, false, false, false, false, false, false, false] hS ?_
                    refine takeE 23 (some 106) #[true, true, true, true, true, true, true, true, true, true, true, true, true, true, true, true, true, true, true, true, true, true, true, true, false, false, false, false, false, false, false, false] hS ?_ (hy := fun w_ hS_ => by (replace hS_ : Below WJ.heap.size WJ w_ := hS_); have q_ := blk_below HBBJ.out hS_; have z4_ : w_.cell? ⟨w.heap.size + 1 + 1, 4, none⟩ = some (.slice (some adb) nb cb) := (blk_cell q_ 4).trans rfl; go_simp <;> with_reducible rfl)
                    refine takeE 24 (some 107) #[true, true, true, true, true, true, true, true, true, true, true, true, true, true, true, true, true, true, true, true, true, true, true, true, true, false, false, false, false, false, false, false] hS ?_
                    refine takeE 25 (some 108) #[true, true, true, true, true, true, true, true, true, true, true, true, true, true, true, true, true, true, true, true, true, true, true, true, true, true, false, false, false, false, false, false] hS ?_
                    refine takeE 26 (some 109) #[true, true, true, true, true, true, true, true, true, true, true, true, true, true, true, true, true, true, true, true, true, true, true, true, true, true, true, false, false, false, false, false] hS ?_
                    refine takeE 27 (some 110) #[true, true, true, true, true, true, true, true, true, true, true, true, true, true, true, true, true, true, true, true, true, true, true, true, true, true, true, true, false, false, false, false] hS ?_ (hy := fun w_ hS_ => by (replace hS_ : Below WJ.heap.size WJ w_ := hS_); have y1_ := below_cell (HBJ.out.trans (hS_.mono HBJ.out.size)) HY1.out; go_simp <;> with_reducible rfl)
                    refine takeE 28 (some 111) #[true, true, true, true, true, true, true, true, true, true, true, true, true, true, true, true, true, true, true, true, true, true, true, true, true, true, true, true, true, false, false, false] hS ?_ (hy := fun w_ hS_ => by have e_ := HK1.out; go_simp <;> with_reducible rfl)
                    refine takeE 29 (some 112) #[true, true, true, true, true, true, true, true, true, true, true, true, true, true, true, true, true, true, true, true, true, true, true, true, true, true, true, true, true, true, false, false] hS ?_
                    refine takeE 30 (some 113) #[true, true, true, true, true, true, true, true, true, true, true, true, true, true, true, true, true, true, true, true, true, true, true, true, true, true, true, true, true, true, true, false] hS ?_
                    refine takeE 31 (some 12) #[true, true, true, true, true, true, true, true, true, true, true, true, true, true, true, true, true, true, true, true, true, true, true, true, true, true, true, true, true, true, true, true] hS ?_
                    refine wpAnyH_done (by kernel_rfl) ?_ _
                    try go_simp
                    have HE := Lib.hid hS
                    clear hS
                    go_wp2
                    go_roundg gk
                    case measure => omega
                    case rel =>
                      have h1 := HSN.out
                      exact ⟨k + 1, q2, by first | rfl | simp, by first | rfl | (congr 1), by omega, by omega, by rw [h1]; unfold sameW; rw [HK0.out, HK1.out]; rfl, HBJ.out.trans (HE.out.mono HBJ.out.size)⟩
      case rest =>
        obtain ⟨m2, rfl, hm2, hbs⟩ := hcut
        obtain ⟨WT, hWT⟩ : ∃ W, W = wc := ⟨_, rfl⟩
        subst hWT
        have hle : D.length ≤ m2 := by have h1 := HSMALL.out HMA1.out.ord HMB1.out.ord; have h2 := HM1.out; omega
        have HBT := Lib.hid (HBS.out.trans (hbs.mono HBS.out.size))
        have hq1 := blk_below HQ1S.out hbs
        have hq2 := blk_below HQ2S.out hbs
        have HRAT := Lib.hid (Kd.C_below HRAS.out hbs)
        have HRBT := Lib.hid (Kd.C_below HRBS.out hbs)
        have x0 : WT.cell? ⟨w.heap.size + 1, 0, none⟩ = some (.int .i64 a.f0) := (blk_cell hq1 0).trans rfl
        have x1 : WT.cell? ⟨w.heap.size + 1, 1, none⟩ = some (.int .i64 a.f1) := (blk_cell hq1 1).trans rfl
        have x2 : WT.cell? ⟨w.heap.size + 1, 2, none⟩ = some (.int .i64 a.f2) := (blk_cell hq1 2).trans rfl
        have x3 : WT.cell? ⟨w.heap.size + 1, 3, none⟩ = some (.int .i64 a.f3) := (blk_cell hq1 3).trans rfl
        have x4 : WT.cell? ⟨w.heap.size + 1, 4, none⟩ = some (.slice Aa na ca) := (blk_cell hq1 4).trans rfl
        have y0 : WT.cell? ⟨w.heap.size + 1 + 1, 0, none⟩ = some (.int .i64 b.f0) := (blk_cell hq2 0).trans rfl
        have y1 : WT.cell? ⟨w.heap.size + 1 + 1, 1, none⟩ = some (.int .i64 b.f1) := (blk_cell hq2 1).trans rfl
        have y2 : WT.cell? ⟨w.heap.size + 1 + 1, 2, none⟩ = some (.int .i64 b.f2) := (blk_cell hq2 2).trans rfl
        have y3 : WT.cell? ⟨w.heap.size + 1 + 1, 3, none⟩ = some (.int .i64 b.f3) := (blk_cell hq2 3).trans rfl
        have y4 : WT.cell? ⟨w.heap.size + 1 + 1, 4, none⟩ = some (.slice Ab nb cb) := (blk_cell hq2 4).trans rfl
        have HLE := Lib.hid hle
        clear hm2 hbs hq1 hq2 hle
        have hdr := HREC.out HMA1.out HMB1.out
        have HDR := Lib.hid hdr
        clear hdr
        go_upto_block 8 with (first | (go_at_call 33; go_loud ((with_reducible refine (HDAB.out _ HRAT.out HRBT.out (by omega) (by omega)).mono ?_); rintro e w8 ⟨v8, rfl, hR8, hb8⟩; obtain ⟨A8, c8, rfl, hc8, _⟩ := Kd.R_reads hR8; have HR8 := Lib.hid hR8; have HB8 := Lib.hid (HBT.out.trans (hb8.mono HBT.out.size)); clear hR8 hb8)))
        clear x0 x1 x2 x3 x4 y0 y1 y2 y3 y4
        obtain ⟨nD, hnD⟩ : ∃ nD, D.length = nD := ⟨_, rfl⟩
        rw [hnD] at HR8 HLE hc8 ⊢
        have HND := Lib.hid hnD
        clear hnD
        have hnDl : nD ≤ 1000 := by have h1 := HDLEN.out; have h2 := HND.out; have h3 := HNA.out; have h4 := HNB.out; omega
        have hc50 : Kd.C k50 w8 A8 nD D := by have h := (Kd.R_reads' HR8.out).2.2; rw [HND.out] at h; exact h
        have HC50 := Lib.hid hc50
        clear hc50
        go_cut [15] from 121 to 132 (fun v15 wd => Below w8.heap.size w8 wd)
        case first =>
          go_wp2
          go_loopg [15] nD (fun kq v15 wd => ∃ (i : Nat), v15 = .int .i64 (i : Int) ∧ i ≤ nD ∧ nD - i ≤ kq ∧ Below w8.heap.size w8 wd)
          case atStart => exact ⟨0, rfl, Nat.zero_le _, by omega, Below.refl _ _⟩
          case round =>
            obtain ⟨i, rfl, hin, hik, hbr⟩ := hrel
            have HBR := Lib.hid hbr
            have HC5 := Lib.hid (Kd.C_below HC50.out hbr)
            clear hbr
            by_cases hlt : i < nD
            rotate_left
            · have d1 : decide ((i : Int) < (nD : Int)) = false := decide_eq_false (by omega)
              go_wp2
              go_meet
              case rel => exact HBR.out
            · have d1 : decide ((i : Int) < (nD : Int)) = true := decide_eq_true (by omega)
              have hbi : (0 : Int) ≤ (i : Int) ∧ (i : Int) < (nD : Int) := by omega
              have hwi : IntKind.i64.wrap ((i : Int) + 1) = ((i + 1 : Nat) : Int) := by rw [IntKind.wrap_i64]; omega
              obtain ⟨ad, had, x0, x1, x2⟩ := at_T50 HC5.out (i : Int) (by omega) (by omega)
              rw [Int.toNat_natCast] at x0 x1 x2
              have hlt2 : i < D.length := by have := HND.out; omega
              have hrdd : rd_T50 D (i : Int) = D[i] := by simp [rd_T50, List.getD, List.getElem?_eq_getElem hlt2]
              have hrm := HDR.out (rd_T50 D (i : Int)) (by rw [hrdd]; exact List.getElem_mem hlt2)
              obtain ⟨x, hx⟩ : ∃ x, rd_T50 D (i : Int) = x := ⟨_, rfl⟩
              rw [hx] at x0 x1 x2 hrm
              have HMR := Lib.hid (fun w => mayRec_calls x hrm w)
              subst had
              clear hrm hrdd hx hlt2
              cases gk with
              | zero => omega
              | succ gk =>
              go_wp2_with (first | (go_at_call 28; go_loud ((with_reducible refine (HMR.out _).mono ?_); rintro e w9 ⟨rfl, hb9⟩; have HB9 := Lib.hid (HBR.out.trans (hb9.mono HBR.out.size)); clear hb9 x0 x1 x2)))
              go_roundg gk
              case measure => omega
              case rel => exact ⟨i + 1, by first | rfl | (congr 1), by omega, by omega, HB9.out⟩
        case rest =>
          have HBZ := Lib.hid (HB8.out.trans (hcut.mono HB8.out.size))
          clear hcut
          have hle := HLE.out
          have dl : decide ((nD : Int) ≤ (m2 : Int)) = true := decide_eq_true (by omega)
          clear hle
          go_wp2_with (first | (go_at_call 31; go_loud ((with_reducible refine (HAW.out _).mono ?_); rintro e w13 ⟨rfl, hb13⟩; have HB13 := Lib.hid (HBZ.out.trans (hb13.mono HBZ.out.size)); clear hb13)))
          go_ret
          exact ⟨rfl, HB13.out⟩
end Go.Proofs.Ytgipepjpkmlmaaa.P
