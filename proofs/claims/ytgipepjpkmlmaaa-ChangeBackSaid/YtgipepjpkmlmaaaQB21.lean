import Derived.Test.YtgipepjpkmlmaaaQB1
import Derived.Test.YtgipepjpkmlmaaaQB2
import Derived.Test.YtgipepjpkmlmaaaQB3
import Derived.Test.YtgipepjpkmlmaaaQB4
import Derived.Test.YtgipepjpkmlmaaaQB5
import Derived.Test.YtgipepjpkmlmaaaQB6
import Derived.Test.YtgipepjpkmlmaaaQB7
import Derived.Test.YtgipepjpkmlmaaaQB8
import Derived.Test.YtgipepjpkmlmaaaQB9
import Derived.Test.YtgipepjpkmlmaaaQB10
import Derived.Test.YtgipepjpkmlmaaaQB11
import Derived.Test.YtgipepjpkmlmaaaQB12
import Derived.Test.YtgipepjpkmlmaaaQB13
import Derived.Test.YtgipepjpkmlmaaaQB14
import Derived.Test.YtgipepjpkmlmaaaQB15
import Derived.Test.YtgipepjpkmlmaaaQB16
import Derived.Test.YtgipepjpkmlmaaaQB17
import Derived.Test.YtgipepjpkmlmaaaQB18
import Derived.Test.YtgipepjpkmlmaaaQB19
import Derived.Test.YtgipepjpkmlmaaaQB20
namespace Go.Proofs.Ytgipepjpkmlmaaa.P
open Go.RowKit Go.Proofs.YtgipepjpkmlmaaaW.PrintWords Go.Proofs.YtgipepjpkmlmaaaW.PrintLast Go.Proofs.YtgipepjpkmlmaaaW.PrintMore
set_option linter.unusedVariables false
set_option linter.unusedSimpArgs false
theorem walk_same : ∀ l : List S46, walkP l l = []
  | [] => walk_nn
  | x :: l => by
    have self : aheadB x x = false := (ahead_no x x).2 (by omega)
    rw [walk_e self self ((eqC_iff x x).2 rfl)]
    exact walk_same l
theorem diff_same (a : S28) : diffP a a = [] := by
  unfold diffP headP sameN
  rw [walk_same, if_pos (by simp)]
  rfl
theorem R_other50 {w w' : World} {B b : Nat} {ok ok2 : Nat → Prop} {v : Value} {l : List S50} (h : Kd.R k50 50 w B ok v l) (hb : b ≤ B) (h2 : ∀ k, v.ownBlock = some k → ok2 k ∧ w'.heap[k]? = w.heap[k]?) : Kd.R k50 50 w' b ok2 v l := by
  obtain ⟨_, inner, ho, hr⟩ := h
  refine ⟨fun k hk => (h2 k hk).1, inner, ⟨ho.1, ?_⟩, hr.imp_ (fun p c hM => by obtain rfl := k50_openM hM; exact k50_mkM _ _ _ _)⟩
  rcases ho.2 with e | ⟨g, cap, cur, e, h1, h3, h4⟩
  · exact .inl e
  · exact .inr ⟨g, cap, cur, e, by omega, ((h2 g (by rw [e]; rfl)).2).trans h3, h4⟩
set_option maxHeartbeats 16000000 in
set_option maxRecDepth 100000 in
/-- ChangeBack answers true. -/
theorem changeBack_walk (g : S23) (a : S28) (Aa : Option Addr) (ca : Nat) (b : S28) (Ab : Option Addr) (cb : Nat) (w : World) (hca : a.f4.length ≤ ca) (hra : Kd.C k46 w Aa a.f4.length a.f4) (ha : stateR a) (hcb : b.f4.length ≤ cb) (hrb : Kd.C k46 w Ab b.f4.length b.f4) (hb : stateR b) :
    Calls Try.prog 10 #[gridV g, .agg #[.int .i64 a.f0, .int .i64 a.f1, .int .i64 a.f2, .int .i64 a.f3, .slice Aa a.f4.length ca], .agg #[.int .i64 b.f0, .int .i64 b.f1, .int .i64 b.f2, .int .i64 b.f3, .slice Ab b.f4.length cb]] w fun e w' => e = .returned (.bool true) ∧ Below w.heap.size w w' := by
  have hla := fun (w : World) (h : Kd.C k46 w Aa a.f4.length a.f4) => headgatelaw17_light.calls a.f0 a.f1 a.f2 a.f3 Aa ca a.f4 _ w h hca rfl
  have hlb := fun (w : World) (h : Kd.C k46 w Ab b.f4.length b.f4) => headgatelaw17_light.calls b.f0 b.f1 b.f2 b.f3 Ab cb b.f4 _ w h hcb rfl
  have hma := fun (w : World) (h : Kd.C k46 w Aa a.f4.length a.f4) => mayE_calls g a Aa ca w h hca
  have hmb := fun (w : World) (h : Kd.C k46 w Ab b.f4.length b.f4) => mayE_calls g b Ab cb w h hcb
  have hdab := fun (w : World) (h1 : Kd.C k46 w Aa a.f4.length a.f4) (h2 : Kd.C k46 w Ab b.f4.length b.f4) (k1 : a.f4.length ≤ 400) (k2 : b.f4.length ≤ 400) => diff_calls a b ha hb Aa Ab ca cb w h1 hca h2 hcb k1 k2
  have hdba := fun (w : World) (h1 : Kd.C k46 w Ab b.f4.length b.f4) (h2 : Kd.C k46 w Aa a.f4.length a.f4) (k1 : b.f4.length ≤ 400) (k2 : a.f4.length ≤ 400) => diff_calls b a hb ha Ab Aa cb ca w h1 hcb h2 hca k1 k2
  have hsab := fun (h1 : MayP a) (h2 : MayP b) (h3 : a.f4.length + b.f4.length ≤ 1000) => diff_steps a b hb h1.ord h2.ord h3 (fun c hc => (h2.cs c hc).ok)
  have hsba := fun (h1 : MayP b) (h2 : MayP a) (h3 : b.f4.length + a.f4.length ≤ 1000) => diff_steps b a ha h1.ord h2.ord h3 (fun c hc => (h2.cs c hc).ok)
  have hlab := diff_len a b
  have hlba := diff_len b a
  have HAR := Lib.hid ha
  have HBR0 := Lib.hid hb
  obtain ⟨D, hD⟩ : ∃ D, diffP a b = D := ⟨_, rfl⟩
  obtain ⟨E, hE⟩ : ∃ E, diffP b a = E := ⟨_, rfl⟩
  rw [hD] at hdab hsab hlab
  rw [hE] at hdba hsba hlba
  clear hD hE
  obtain ⟨na, hna⟩ : ∃ na, a.f4.length = na := ⟨_, rfl⟩
  obtain ⟨nb, hnb⟩ : ∃ nb, b.f4.length = nb := ⟨_, rfl⟩
  rw [hna] at hra hca hla hma hdab hdba hsab hsba hlab hlba ⊢
  rw [hnb] at hrb hcb hlb hmb hdab hdba hsab hsba hlab hlba ⊢
  have HNA := Lib.hid hna
  have HNB := Lib.hid hnb
  have HLA := Lib.hid hla
  have HLB := Lib.hid hlb
  have HMA := Lib.hid hma
  have HMB := Lib.hid hmb
  have HDAB := Lib.hid hdab
  have HDBA := Lib.hid hdba
  have HSAB := Lib.hid hsab
  have HSBA := Lib.hid hsba
  have HLAB := Lib.hid hlab
  have HLBA := Lib.hid hlba
  have HAW := Lib.hid awake17_calls
  obtain ⟨W3, hW3⟩ : ∃ W, W = ((w.alloc (.cells #[.int .i64 g.f0, .int .i64 g.f1, .int .i64 g.f2] 23)).alloc (.cells #[.int .i64 a.f0, .int .i64 a.f1, .int .i64 a.f2, .int .i64 a.f3, .slice Aa na ca] 28)).alloc (.cells #[.int .i64 b.f0, .int .i64 b.f1, .int .i64 b.f2, .int .i64 b.f3, .slice Ab nb cb] 28) := ⟨_, rfl⟩
  have h0 : W3.heap[w.heap.size]? = some (.cells #[.int .i64 g.f0, .int .i64 g.f1, .int .i64 g.f2] 23 (0, 0)) := by
    rw [hW3]
    exact blk_below (blk_below (heap_alloc_new w _) ((Below.refl _ _).alloc (Nat.le_refl _) _)) ((Below.refl _ _).alloc (Nat.le_refl _) _)
  have h1 : W3.heap[w.heap.size + 1]? = some (.cells #[.int .i64 a.f0, .int .i64 a.f1, .int .i64 a.f2, .int .i64 a.f3, .slice Aa na ca] 28 (0, 0)) := by
    rw [hW3]
    have := blk_below (heap_alloc_new (w.alloc (.cells #[.int .i64 g.f0, .int .i64 g.f1, .int .i64 g.f2] 23)) (.cells #[.int .i64 a.f0, .int .i64 a.f1, .int .i64 a.f2, .int .i64 a.f3, .slice Aa na ca] 28)) ((Below.refl _ _).alloc (Nat.le_refl _) (.cells #[.int .i64 b.f0, .int .i64 b.f1, .int .i64 b.f2, .int .i64 b.f3, .slice Ab nb cb] 28))
    simpa using this
  have h2 : W3.heap[w.heap.size + 1 + 1]? = some (.cells #[.int .i64 b.f0, .int .i64 b.f1, .int .i64 b.f2, .int .i64 b.f3, .slice Ab nb cb] 28 (0, 0)) := by
    rw [hW3]
    have := heap_alloc_new ((w.alloc (.cells #[.int .i64 g.f0, .int .i64 g.f1, .int .i64 g.f2] 23)).alloc (.cells #[.int .i64 a.f0, .int .i64 a.f1, .int .i64 a.f2, .int .i64 a.f3, .slice Aa na ca] 28)) (.cells #[.int .i64 b.f0, .int .i64 b.f1, .int .i64 b.f2, .int .i64 b.f3, .slice Ab nb cb] 28)
    simpa using this
  have hbw : Below w.heap.size w W3 := by rw [hW3]; exact below_alloc (below_alloc (below_alloc (Below.refl _ _) _) _) _
  have HB := Lib.hid hbw
  have HW3 := Lib.hid hW3
  have H0 := Lib.hid h0
  have H1 := Lib.hid h1
  have H2 := Lib.hid h2
  have HRA0 := Lib.hid hra
  have HRB0 := Lib.hid hrb
  have HRA := Lib.hid (Kd.C_below hra hbw)
  have HRB := Lib.hid (Kd.C_below hrb hbw)
  have g0 : W3.cell? ⟨w.heap.size, 0, none⟩ = some (.int .i64 g.f0) := (blk_cell h0 0).trans rfl
  have g1 : W3.cell? ⟨w.heap.size, 1, none⟩ = some (.int .i64 g.f1) := (blk_cell h0 1).trans rfl
  have g2 : W3.cell? ⟨w.heap.size, 2, none⟩ = some (.int .i64 g.f2) := (blk_cell h0 2).trans rfl
  have x0 : W3.cell? ⟨w.heap.size + 1, 0, none⟩ = some (.int .i64 a.f0) := (blk_cell h1 0).trans rfl
  have x1 : W3.cell? ⟨w.heap.size + 1, 1, none⟩ = some (.int .i64 a.f1) := (blk_cell h1 1).trans rfl
  have x2 : W3.cell? ⟨w.heap.size + 1, 2, none⟩ = some (.int .i64 a.f2) := (blk_cell h1 2).trans rfl
  have x3 : W3.cell? ⟨w.heap.size + 1, 3, none⟩ = some (.int .i64 a.f3) := (blk_cell h1 3).trans rfl
  have x4 : W3.cell? ⟨w.heap.size + 1, 4, none⟩ = some (.slice Aa na ca) := (blk_cell h1 4).trans rfl
  have y0 : W3.cell? ⟨w.heap.size + 1 + 1, 0, none⟩ = some (.int .i64 b.f0) := (blk_cell h2 0).trans rfl
  have y1 : W3.cell? ⟨w.heap.size + 1 + 1, 1, none⟩ = some (.int .i64 b.f1) := (blk_cell h2 1).trans rfl
  have y2 : W3.cell? ⟨w.heap.size + 1 + 1, 2, none⟩ = some (.int .i64 b.f2) := (blk_cell h2 2).trans rfl
  have y3 : W3.cell? ⟨w.heap.size + 1 + 1, 3, none⟩ = some (.int .i64 b.f3) := (blk_cell h2 3).trans rfl
  have y4 : W3.cell? ⟨w.heap.size + 1 + 1, 4, none⟩ = some (.slice Ab nb cb) := (blk_cell h2 4).trans rfl
  clear hW3 h0 h1 h2 hbw hra hrb hla hlb hma hmb hdab hdba hsab hsba hlab hlba hna hnb ha hb
  go_enter Try.func10, Try.ntmps10
  go_upto_region 1 with fail
  rw [← HW3.out]
  go_cut [35] from 16 to 34 (fun v35 wc => ∃ bad : Bool, v35 = .bool bad ∧ (bad = false → (na ≤ 80 ∧ nb ≤ 80) ∧ MayP a ∧ MayP b) ∧ Below W3.heap.size W3 wc)
  case first =>
    by_cases k1 : na ≤ 80
    rotate_left
    · have hla := HLA.out
      have d1 : decide ((na : Int) ≤ 80) = false := decide_eq_false (by omega)
      rw [d1] at hla
      have HLA' := Lib.hid hla
      clear hla d1 HLA
      go_wp2_with (first | (go_at_call 30; go_loud ((with_reducible refine (HLA'.out _ HRA.out).mono ?_); rintro e w4 ⟨rfl, hb4⟩; have HB4 := Lib.hid hb4; clear hb4)))
      go_meet
      case rel => exact ⟨true, rfl, (fun h => by cases h), HB4.out⟩
    have hla := HLA.out
    have d1 : decide ((na : Int) ≤ 80) = true := decide_eq_true (by omega)
    rw [d1] at hla
    have HLA' := Lib.hid hla
    clear hla d1 HLA
    by_cases k2 : nb ≤ 80
    rotate_left
    · have hlb := HLB.out
      have d1 : decide ((nb : Int) ≤ 80) = false := decide_eq_false (by omega)
      rw [d1] at hlb
      have HLB' := Lib.hid hlb
      clear hlb d1 HLB
      go_wp2_with (first | (go_at_call 30; go_loud ((with_reducible refine (HLA'.out _ HRA.out).mono ?_); rintro e w4 ⟨rfl, hb4⟩; have HB4 := Lib.hid hb4; have q2 := blk_below H2.out hb4; have y0 : w4.cell? ⟨w.heap.size + 1 + 1, 0, none⟩ = some (.int .i64 b.f0) := (blk_cell q2 0).trans rfl; have y1 : w4.cell? ⟨w.heap.size + 1 + 1, 1, none⟩ = some (.int .i64 b.f1) := (blk_cell q2 1).trans rfl; have y2 : w4.cell? ⟨w.heap.size + 1 + 1, 2, none⟩ = some (.int .i64 b.f2) := (blk_cell q2 2).trans rfl; have y3 : w4.cell? ⟨w.heap.size + 1 + 1, 3, none⟩ = some (.int .i64 b.f3) := (blk_cell q2 3).trans rfl; have y4 : w4.cell? ⟨w.heap.size + 1 + 1, 4, none⟩ = some (.slice Ab nb cb) := (blk_cell q2 4).trans rfl; have HRB4 := Lib.hid (Kd.C_below HRB.out hb4); clear hb4 q2)) | (go_at_call 30; go_loud ((with_reducible refine (HLB'.out _ HRB4.out).mono ?_); rintro e w5 ⟨rfl, hb5⟩; have hb5' := HB4.out.trans (hb5.mono HB4.out.size); have HB5 := Lib.hid hb5'; have q0 := blk_below H0.out hb5'; have q1 := blk_below H1.out hb5'; have g0 : w5.cell? ⟨w.heap.size, 0, none⟩ = some (.int .i64 g.f0) := (blk_cell q0 0).trans rfl; have g1 : w5.cell? ⟨w.heap.size, 1, none⟩ = some (.int .i64 g.f1) := (blk_cell q0 1).trans rfl; have g2 : w5.cell? ⟨w.heap.size, 2, none⟩ = some (.int .i64 g.f2) := (blk_cell q0 2).trans rfl; have x0 : w5.cell? ⟨w.heap.size + 1, 0, none⟩ = some (.int .i64 a.f0) := (blk_cell q1 0).trans rfl; have x1 : w5.cell? ⟨w.heap.size + 1, 1, none⟩ = some (.int .i64 a.f1) := (blk_cell q1 1).trans rfl; have x2 : w5.cell? ⟨w.heap.size + 1, 2, none⟩ = some (.int .i64 a.f2) := (blk_cell q1 2).trans rfl; have x3 : w5.cell? ⟨w.heap.size + 1, 3, none⟩ = some (.int .i64 a.f3) := (blk_cell q1 3).trans rfl; have x4 : w5.cell? ⟨w.heap.size + 1, 4, none⟩ = some (.slice Aa na ca) := (blk_cell q1 4).trans rfl; have HRA5 := Lib.hid (Kd.C_below HRA.out hb5'); clear hb5 hb5' q0 q1)))
      go_meet
      case rel => exact ⟨true, rfl, (fun h => by cases h), HB5.out⟩
    have hlb := HLB.out
    have d1 : decide ((nb : Int) ≤ 80) = true := decide_eq_true (by omega)
    rw [d1] at hlb
    have HLB' := Lib.hid hlb
    clear hlb d1 HLB
    go_wp2_with (first | (go_at_call 30; go_loud ((with_reducible refine (HLA'.out _ HRA.out).mono ?_); rintro e w4 ⟨rfl, hb4⟩; have HB4 := Lib.hid hb4; have q2 := blk_below H2.out hb4; have y0 : w4.cell? ⟨w.heap.size + 1 + 1, 0, none⟩ = some (.int .i64 b.f0) := (blk_cell q2 0).trans rfl; have y1 : w4.cell? ⟨w.heap.size + 1 + 1, 1, none⟩ = some (.int .i64 b.f1) := (blk_cell q2 1).trans rfl; have y2 : w4.cell? ⟨w.heap.size + 1 + 1, 2, none⟩ = some (.int .i64 b.f2) := (blk_cell q2 2).trans rfl; have y3 : w4.cell? ⟨w.heap.size + 1 + 1, 3, none⟩ = some (.int .i64 b.f3) := (blk_cell q2 3).trans rfl; have y4 : w4.cell? ⟨w.heap.size + 1 + 1, 4, none⟩ = some (.slice Ab nb cb) := (blk_cell q2 4).trans rfl; have HRB4 := Lib.hid (Kd.C_below HRB.out hb4); clear hb4 q2)) | (go_at_call 30; go_loud ((with_reducible refine (HLB'.out _ HRB4.out).mono ?_); rintro e w5 ⟨rfl, hb5⟩; have hb5' := HB4.out.trans (hb5.mono HB4.out.size); have HB5 := Lib.hid hb5'; have q0 := blk_below H0.out hb5'; have q1 := blk_below H1.out hb5'; have g0 : w5.cell? ⟨w.heap.size, 0, none⟩ = some (.int .i64 g.f0) := (blk_cell q0 0).trans rfl; have g1 : w5.cell? ⟨w.heap.size, 1, none⟩ = some (.int .i64 g.f1) := (blk_cell q0 1).trans rfl; have g2 : w5.cell? ⟨w.heap.size, 2, none⟩ = some (.int .i64 g.f2) := (blk_cell q0 2).trans rfl; have x0 : w5.cell? ⟨w.heap.size + 1, 0, none⟩ = some (.int .i64 a.f0) := (blk_cell q1 0).trans rfl; have x1 : w5.cell? ⟨w.heap.size + 1, 1, none⟩ = some (.int .i64 a.f1) := (blk_cell q1 1).trans rfl; have x2 : w5.cell? ⟨w.heap.size + 1, 2, none⟩ = some (.int .i64 a.f2) := (blk_cell q1 2).trans rfl; have x3 : w5.cell? ⟨w.heap.size + 1, 3, none⟩ = some (.int .i64 a.f3) := (blk_cell q1 3).trans rfl; have x4 : w5.cell? ⟨w.heap.size + 1, 4, none⟩ = some (.slice Aa na ca) := (blk_cell q1 4).trans rfl; have HRA5 := Lib.hid (Kd.C_below HRA.out hb5'); clear hb5 hb5' q0 q1)) | (go_at_call 35; go_loud ((with_reducible refine (HMA.out _ HRA5.out).mono ?_); rintro e w6 ⟨qa, rfl, hqa, hb6⟩; have hb6' := HB5.out.trans (hb6.mono HB5.out.size); have HB6 := Lib.hid hb6'; have q0 := blk_below H0.out hb6'; have q2 := blk_below H2.out hb6'; have g0 : w6.cell? ⟨w.heap.size, 0, none⟩ = some (.int .i64 g.f0) := (blk_cell q0 0).trans rfl; have g1 : w6.cell? ⟨w.heap.size, 1, none⟩ = some (.int .i64 g.f1) := (blk_cell q0 1).trans rfl; have g2 : w6.cell? ⟨w.heap.size, 2, none⟩ = some (.int .i64 g.f2) := (blk_cell q0 2).trans rfl; have y0 : w6.cell? ⟨w.heap.size + 1 + 1, 0, none⟩ = some (.int .i64 b.f0) := (blk_cell q2 0).trans rfl; have y1 : w6.cell? ⟨w.heap.size + 1 + 1, 1, none⟩ = some (.int .i64 b.f1) := (blk_cell q2 1).trans rfl; have y2 : w6.cell? ⟨w.heap.size + 1 + 1, 2, none⟩ = some (.int .i64 b.f2) := (blk_cell q2 2).trans rfl; have y3 : w6.cell? ⟨w.heap.size + 1 + 1, 3, none⟩ = some (.int .i64 b.f3) := (blk_cell q2 3).trans rfl; have y4 : w6.cell? ⟨w.heap.size + 1 + 1, 4, none⟩ = some (.slice Ab nb cb) := (blk_cell q2 4).trans rfl; have HRB6 := Lib.hid (Kd.C_below HRB.out hb6'); have HQA := Lib.hid hqa; clear hb6 hb6' q0 q2 hqa; cases qa)) | (go_at_call 35; go_loud ((with_reducible refine (HMB.out _ HRB6.out).mono ?_); rintro e w7 ⟨qb, rfl, hqb, hb7⟩; have HB7 := Lib.hid (HB6.out.trans (hb7.mono HB6.out.size)); have HQB := Lib.hid hqb; clear hb7 hqb; cases qb)))
    · go_meet
      case rel => exact ⟨true, rfl, (fun h => by cases h), HB6.out⟩
    · go_meet
      case rel => exact ⟨true, rfl, (fun h => by cases h), HB7.out⟩
    · go_meet
      case rel => exact ⟨false, rfl, (fun _ => ⟨⟨k1, k2⟩, HQA.out (by first | rfl | trivial), HQB.out (by first | rfl | trivial)⟩), HB7.out⟩
  case rest =>
    obtain ⟨bad, rfl, hbad, hb0⟩ := hcut
    obtain ⟨WX, hWX⟩ : ∃ W, W = wc := ⟨_, rfl⟩
    subst hWX
    have HB0 := Lib.hid (HB.out.trans (hb0.mono HB.out.size))
    cases bad with
    | true =>
      clear hbad
      go_wp2_with (first | (go_at_call 31; go_loud ((with_reducible refine (HAW.out _).mono ?_); rintro e w4 ⟨rfl, hb4⟩; have HB4 := Lib.hid hb4; clear hb4)))
      go_ret
      exact ⟨rfl, HB0.out.trans (HB4.out.mono HB0.out.size)⟩
    | false =>
    obtain ⟨⟨k1, k2⟩, hpa, hpb⟩ := hbad (by first | rfl | trivial)
    have hstab := HSAB.out hpa hpb (by omega)
    have hstba := HSBA.out hpb hpa (by omega)
    have HSTAB := Lib.hid hstab
    have HSTBA := Lib.hid hstba
    have hq0 := blk_below H0.out hb0
    have hq1 := blk_below H1.out hb0
    have hq2 := blk_below H2.out hb0
    have HRAX := Lib.hid (Kd.C_below HRA.out hb0)
    have HRBX := Lib.hid (Kd.C_below HRB.out hb0)
    clear g0 g1 g2 x0 y0 x1 y1 x2 y2 x3 y3 x4 y4 hstab hstba hpa hpb hbad
    have x0 : WX.cell? ⟨w.heap.size + 1, 0, none⟩ = some (.int .i64 a.f0) := (blk_cell hq1 0).trans rfl
    have x1 : WX.cell? ⟨w.heap.size + 1, 1, none⟩ = some (.int .i64 a.f1) := (blk_cell hq1 1).trans rfl
    have x2 : WX.cell? ⟨w.heap.size + 1, 2, none⟩ = some (.int .i64 a.f2) := (blk_cell hq1 2).trans rfl
    have x3 : WX.cell? ⟨w.heap.size + 1, 3, none⟩ = some (.int .i64 a.f3) := (blk_cell hq1 3).trans rfl
    have x4 : WX.cell? ⟨w.heap.size + 1, 4, none⟩ = some (.slice Aa na ca) := (blk_cell hq1 4).trans rfl
    have y0 : WX.cell? ⟨w.heap.size + 1 + 1, 0, none⟩ = some (.int .i64 b.f0) := (blk_cell hq2 0).trans rfl
    have y1 : WX.cell? ⟨w.heap.size + 1 + 1, 1, none⟩ = some (.int .i64 b.f1) := (blk_cell hq2 1).trans rfl
    have y2 : WX.cell? ⟨w.heap.size + 1 + 1, 2, none⟩ = some (.int .i64 b.f2) := (blk_cell hq2 2).trans rfl
    have y3 : WX.cell? ⟨w.heap.size + 1 + 1, 3, none⟩ = some (.int .i64 b.f3) := (blk_cell hq2 3).trans rfl
    have y4 : WX.cell? ⟨w.heap.size + 1 + 1, 4, none⟩ = some (.slice Ab nb cb) := (blk_cell hq2 4).trans rfl
    have HQ1 := Lib.hid hq1
    have HQ2 := Lib.hid hq2
    clear hq0 hq1 hq2 hb0
    go_upto_region 4 with fail
    obtain ⟨WS, hWS⟩ : ∃ W, W = WX.alloc (.cells #[.int .i64 a.f0, .int .i64 a.f1, .int .i64 a.f2, .int .i64 a.f3, .slice Aa na ca] 28) := ⟨_, rfl⟩
    have hbs : Below WX.heap.size WX WS := by rw [hWS]; exact (Below.refl _ _).alloc (Nat.le_refl _) _
    have hgs : WS.heap[WX.heap.size]? = some (.cells #[.int .i64 a.f0, .int .i64 a.f1, .int .i64 a.f2, .int .i64 a.f3, .slice Aa na ca] 28 (0, 0)) := by rw [hWS]; exact heap_alloc_new _ _
    have hgl : w.heap.size + 1 + 1 < WX.heap.size := lt_of_block HQ2.out
    obtain ⟨gs, hgse⟩ : ∃ gs, WX.heap.size = gs := ⟨_, rfl⟩
    rw [← hWS]
    rw [hgse] at hgs hgl ⊢
    have hq1 := blk_below HQ1.out hbs
    have hq2 := blk_below HQ2.out hbs
    clear x0 x1 x2 x3 x4 y0 y1 y2 y3 y4
    have z0 : WS.cell? ⟨gs, 0, none⟩ = some (.int .i64 a.f0) := (blk_cell hgs 0).trans rfl
    have z1 : WS.cell? ⟨gs, 1, none⟩ = some (.int .i64 a.f1) := (blk_cell hgs 1).trans rfl
    have z2 : WS.cell? ⟨gs, 2, none⟩ = some (.int .i64 a.f2) := (blk_cell hgs 2).trans rfl
    have z3 : WS.cell? ⟨gs, 3, none⟩ = some (.int .i64 a.f3) := (blk_cell hgs 3).trans rfl
    have z4 : WS.cell? ⟨gs, 4, none⟩ = some (.slice Aa na ca) := (blk_cell hgs 4).trans rfl
    have x0 : WS.cell? ⟨w.heap.size + 1, 0, none⟩ = some (.int .i64 a.f0) := (blk_cell hq1 0).trans rfl
    have x1 : WS.cell? ⟨w.heap.size + 1, 1, none⟩ = some (.int .i64 a.f1) := (blk_cell hq1 1).trans rfl
    have x2 : WS.cell? ⟨w.heap.size + 1, 2, none⟩ = some (.int .i64 a.f2) := (blk_cell hq1 2).trans rfl
    have x3 : WS.cell? ⟨w.heap.size + 1, 3, none⟩ = some (.int .i64 a.f3) := (blk_cell hq1 3).trans rfl
    have x4 : WS.cell? ⟨w.heap.size + 1, 4, none⟩ = some (.slice Aa na ca) := (blk_cell hq1 4).trans rfl
    have y0 : WS.cell? ⟨w.heap.size + 1 + 1, 0, none⟩ = some (.int .i64 b.f0) := (blk_cell hq2 0).trans rfl
    have y1 : WS.cell? ⟨w.heap.size + 1 + 1, 1, none⟩ = some (.int .i64 b.f1) := (blk_cell hq2 1).trans rfl
    have y2 : WS.cell? ⟨w.heap.size + 1 + 1, 2, none⟩ = some (.int .i64 b.f2) := (blk_cell hq2 2).trans rfl
    have y3 : WS.cell? ⟨w.heap.size + 1 + 1, 3, none⟩ = some (.int .i64 b.f3) := (blk_cell hq2 3).trans rfl
    have y4 : WS.cell? ⟨w.heap.size + 1 + 1, 4, none⟩ = some (.slice Ab nb cb) := (blk_cell hq2 4).trans rfl
    have HGL := Lib.hid hgl
    have HGS := Lib.hid hgs
    have HQ1 := Lib.hid hq1
    have HQ2 := Lib.hid hq2
    have HBS := Lib.hid (HB0.out.trans (hbs.mono HB0.out.size))
    have HRAS := Lib.hid (Kd.C_below HRAX.out hbs)
    have HRBS := Lib.hid (Kd.C_below HRBX.out hbs)
    have HGSS := Lib.hid (lt_of_block hgs)
    clear hWS hbs hgs hgl hgse hq1 hq2
    go_upto_block 0 with (first | (go_at_call 33; go_loud ((with_reducible refine (HDAB.out _ HRAS.out HRBS.out (by omega) (by omega)).mono ?_); rintro e w8 ⟨v8, rfl, hR8, hb8⟩; obtain ⟨A8, c8, rfl, hc8, _⟩ := Kd.R_reads hR8; have HR8 := Lib.hid hR8; have HB8 := Lib.hid hb8; clear hR8 hb8)))
    obtain ⟨nD, hnD⟩ : ∃ nD, D.length = nD := ⟨_, rfl⟩
    rw [hnD] at HR8 hc8 ⊢
    have HND := Lib.hid hnD
    clear hnD
    have hnDl : nD ≤ 1000 := by have h1 := HLAB.out; have h2 := HND.out; omega
    go_cut [9, 10, 11] from 41 to 58 (fun v9 v10 v11 wd => ∃ (A6 : Option Addr) (c6 : Nat), wd.heap[gs]? = some (.cells #[.int .i64 b.f0, .int .i64 b.f1, .int .i64 b.f2, .int .i64 b.f3, .slice A6 nb c6] 28 (0, 0)) ∧ Kd.C k46 wd A6 nb b.f4 ∧ nb ≤ c6 ∧ wd.heap[w.heap.size + 1]? = some (.cells #[.int .i64 a.f0, .int .i64 a.f1, .int .i64 a.f2, .int .i64 a.f3, .slice Aa na ca] 28 (0, 0)) ∧ wd.heap[w.heap.size + 1 + 1]? = some (.cells #[.int .i64 b.f0, .int .i64 b.f1, .int .i64 b.f2, .int .i64 b.f3, .slice Ab nb cb] 28 (0, 0)) ∧ Below w.heap.size w wd)
    case first =>
      go_wp2
      go_loopg [9] nD (fun kq v9 wd => ∃ (i : Nat) (q : S28) (A6 : Option Addr) (c6 n6 : Nat), v9 = .int .i64 (i : Int) ∧ i ≤ nD ∧ nD - i ≤ kq ∧ n6 = q.f4.length ∧ n6 ≤ c6 ∧ Steps q (D.drop i) b ∧ wd.heap[gs]? = some (.cells #[.int .i64 q.f0, .int .i64 q.f1, .int .i64 q.f2, .int .i64 q.f3, .slice A6 n6 c6] 28 (0, 0)) ∧ Kd.C k46 wd A6 n6 q.f4 ∧ Kd.R k50 50 wd w.heap.size (fun k => k ≠ gs) (.slice A8 nD c8) D ∧ wd.heap[w.heap.size + 1]? = some (.cells #[.int .i64 a.f0, .int .i64 a.f1, .int .i64 a.f2, .int .i64 a.f3, .slice Aa na ca] 28 (0, 0)) ∧ wd.heap[w.heap.size + 1 + 1]? = some (.cells #[.int .i64 b.f0, .int .i64 b.f1, .int .i64 b.f2, .int .i64 b.f3, .slice Ab nb cb] 28 (0, 0)) ∧ Below w.heap.size w wd)
      case atStart => exact ⟨0, a, Aa, ca, na, rfl, Nat.zero_le _, by omega, HNA.out.symm, hca, HSTAB.out, blk_below HGS.out HB8.out, Kd.C_below HRAS.out HB8.out, R_other50 HR8.out HBS.out.size (fun k hk => ⟨by have h1 := Kd.R_base HR8.out k hk; have h2 := HGSS.out; omega, rfl⟩), blk_below HQ1.out HB8.out, blk_below HQ2.out HB8.out, HBS.out.trans (HB8.out.mono HBS.out.size)⟩
      case round =>
        obtain ⟨i, q, A6, c6, n6, rfl, hin, hik, e6, hc6, hst, hgs, hcq, hrd, hx1, hx2, hbr⟩ := hrel
        obtain ⟨WL, hWL⟩ : ∃ W, W = wr := ⟨_, rfl⟩
        subst hWL
        have HGQ := Lib.hid hgs
        have HRD := Lib.hid hrd
        have HX1 := Lib.hid hx1
        have HX2 := Lib.hid hx2
        have HBR := Lib.hid hbr
        have HE6 := Lib.hid e6
        by_cases hlt : i < nD
        rotate_left
        · have d1 : decide ((i : Int) < (nD : Int)) = false := decide_eq_false (by omega)
          rw [List.drop_eq_nil_of_le (by have := HND.out; omega)] at hst
          have hqb : q = b := hst
          have HQB := Lib.hid hqb
          have HCQ := Lib.hid hcq
          clear hgs hcq hrd hx1 hx2 hbr e6 hst hqb
          go_wp2
          go_meet
          case rel =>
            have hqb := HQB.out
            have h6 := HE6.out
            rw [hqb] at h6
            have h7 := HNB.out
            have h8 : n6 = nb := by omega
            have hg := HGQ.out
            have hcq := HCQ.out
            rw [hqb, h8] at hg
            rw [hqb, h8] at hcq
            exact ⟨A6, c6, hg, hcq, by omega, HX1.out, HX2.out, HBR.out⟩
        · have d1 : decide ((i : Int) < (nD : Int)) = true := decide_eq_true (by omega)
          have hbi : (0 : Int) ≤ (i : Int) ∧ (i : Int) < (nD : Int) := by omega
          have hwi : IntKind.i64.wrap ((i : Int) + 1) = ((i + 1 : Nat) : Int) := by rw [IntKind.wrap_i64]; omega
          have hc50 : Kd.C k50 WL A8 D.length D := (Kd.R_reads' hrd).2.2
          rw [HND.out] at hc50
          obtain ⟨ad, had, x0, x1, x2⟩ := at_T50 hc50 (i : Int) (by omega) (by omega)
          have HAD := Lib.hid had
          rw [Int.toNat_natCast] at x0 x1 x2
          have hlt2 : i < D.length := by have := HND.out; omega
          have hrdd : rd_T50 D (i : Int) = D[i] := by simp [rd_T50, List.getD, List.getElem?_eq_getElem hlt2]
          rw [List.drop_eq_getElem_cons hlt2, ← hrdd] at hst
          obtain ⟨x, hx⟩ : ∃ x, rd_T50 D (i : Int) = x := ⟨_, rfl⟩
          rw [hx] at x0 x1 x2 hst
          obtain ⟨t, hstep, hst2⟩ := hst
          have hstp := fun (w : World) (h : Kd.C k46 w A6 q.f4.length q.f4) => hstep A6 c6 w h (by rw [← e6]; exact hc6)
          unfold stV at hstp
          rw [← e6] at hstp
          have HSTP := Lib.hid hstp
          have HST2 := Lib.hid hst2
          have HCQ := Lib.hid hcq
          have HY0 := Lib.hid x0
          have HY1 := Lib.hid x1
          have HY2 := Lib.hid x2
          subst had
          clear hstep hstp hst2 hcq hrdd hx hlt2 e6 hgs hrd hx1 hx2 hbr hc50 x0 x1 x2 HAD
          cases gk with
          | zero => omega
          | succ gk =>
          go_wp2
          refine wp_region_held_drew (S := fun w_ => Below WL.heap.size WL w_) (by kernel_rfl) (below_drew (Below.refl _ _)) (fun hS_ => ?_)
          have hS : Below WL.heap.size WL _ := hS_
          clear hS_
          change wpAnyH _ _ _ _ _ 12 #[false, false, false, false, false, false, false, false, false, false, false, false] _ _
          refine takeE 0 (some 48) #[true, false, false, false, false, false, false, false, false, false, false, false] hS ?_ (hy := fun w_ hS_ => by (replace hS_ : Below WL.heap.size WL w_ := hS_); have q_ := blk_below HGQ.out hS_; have z0 : w_.cell? ⟨gs, 0, none⟩ = some (.int .i64 q.f0) := (blk_cell q_ 0).trans rfl; have z1 : w_.cell? ⟨gs, 1, none⟩ = some (.int .i64 q.f1) := (blk_cell q_ 1).trans rfl; have z2 : w_.cell? ⟨gs, 2, none⟩ = some (.int .i64 q.f2) := (blk_cell q_ 2).trans rfl; have z3 : w_.cell? ⟨gs, 3, none⟩ = some (.int .i64 q.f3) := (blk_cell q_ 3).trans rfl; have z4 : w_.cell? ⟨gs, 4, none⟩ = some (.slice A6 n6 c6) := (blk_cell q_ 4).trans rfl; go_simp <;> with_reducible rfl)
          refine takeE 1 (some 49) #[true, true, false, false, false, false, false, false, false, false, false, false] hS ?_
          refine takeE 2 (some 50) #[true, true, true, false, false, false, false, false, false, false, false, false] hS ?_
          refine takeE 3 (some 51) #[true, true, true, true, false, false, false, false, false, false, false, false] hS ?_
          refine takeE 4 (some 52) #[true, true, true, true, true, false, false, false, false, false, false, false] hS ?_ (hy := fun w_ hS_ => by (replace hS_ : Below WL.heap.size WL w_ := hS_); have y0_ := below_cell hS_ HY0.out; have y1_ := below_cell hS_ HY1.out; have y2_ := below_cell hS_ HY2.out; go_simp <;> with_reducible rfl)
          refine doD2 (i := 5) (j := 9) (l2 := #[true, true, true, true, true, true, false, false, false, false, false, false]) (l3 := #[true, true, true, true, true, false, false, false, false, true, false, false]) (by kernel_rfl) rfl rfl (by kernel_rfl) (by kernel_rfl) (by kernel_rfl) (by kernel_rfl) (fun K hK => ?_) (fun K hK => ?_)
          · skip
            go_simp
            go_wp2_with (first | (go_at_call 36; go_loud ((with_reducible refine (HSTP.out _ (Kd.C_below HCQ.out hS)).mono ?_); rintro e w5 ⟨A9, c9, rfl, hR9, hb5⟩)))
            have HRR9 := Lib.hid (R_reok (ok2 := fun k => WL.heap.size ≤ k) hR9 hS.size (fun k hk => Nat.le_trans hS.size (own_lt hR9 hk).1))
            have HBB5 := Lib.hid (hS.trans (hb5.mono hS.size))
            refine hK.out _ _ ?_ (fun hS_ => ?_)
            · show Below WL.heap.size WL _
              exact HBB5.out
            clear hK K hS hb5 hR9
            have hS : Below WL.heap.size WL _ := hS_
            clear hS_
            refine takeE 6 (some 47) #[true, true, true, true, true, true, true, false, false, false, false, false] hS ?_
            refine takeE 7 (some 54) #[true, true, true, true, true, true, true, true, false, false, false, false] hS ?_
            refine takeE 8 (some 55) #[true, true, true, true, true, true, true, true, true, false, false, false] hS ?_
            have hSr := Lib.hid hS
            refine doD (i := 9) (ls2 := #[true, true, true, true, true, true, true, true, true, true, false, false]) (by kernel_rfl) rfl (by kernel_rfl) (by kernel_rfl) (fun K hK => ?_)
            go_simp
            refine hK.out _ _ ?_ (fun hS_ => ?_)
            · show Below WL.heap.size WL _
              exact hS.alloc hS.size _
            clear hK K hS
            have hS : Below WL.heap.size WL _ := hS_
            clear hS_
            refine doD (i := 10) (ls2 := #[true, true, true, true, true, true, true, true, true, true, true, false]) (by kernel_rfl) rfl (by kernel_rfl) (by kernel_rfl) (fun K hK => ?_)
            go_simp
            refine hK.out _ _ ?_ (fun hS_ => ?_)
            · show Below WL.heap.size WL _
              exact (hSr.out).alloc hSr.out.size _
            clear hK K hS
            have hS : Below WL.heap.size WL _ := hS_
            clear hS_
            refine takeE 11 (some 11) #[true, true, true, true, true, true, true, true, true, true, true, true] hS ?_
            refine wpAnyH_done (by kernel_rfl) ?_ _
            try go_simp
            clear hS hSr
            obtain ⟨n9, hn9⟩ : ∃ n9, t.f4.length = n9 := ⟨_, rfl⟩
            have hc9 := (Kd.R_reads' HRR9.out).2.1
            rw [hn9] at HRR9 hc9 ⊢
            obtain ⟨WT, hWT⟩ : ∃ W, W = w5.alloc (.cells #[.int .i64 t.f0, .int .i64 t.f1, .int .i64 t.f2, .int .i64 t.f3, .slice A9 n9 c9] 28) := ⟨_, rfl⟩
            rw [← hWT]
            have htt : WT.heap[w5.heap.size]? = some (.cells #[.int .i64 t.f0, .int .i64 t.f1, .int .i64 t.f2, .int .i64 t.f3, .slice A9 n9 c9] 28 (0, 0)) := by rw [hWT]; exact heap_alloc_new _ _
            have hbT : Below w5.heap.size w5 WT := by rw [hWT]; exact (Below.refl _ _).alloc (Nat.le_refl _) _
            have hbTr : Below WL.heap.size WL WT := HBB5.out.trans (hbT.mono HBB5.out.size)
            have hRT := Kd.R_below HRR9.out hbT
            clear hWT hbT
            have HBTR := Lib.hid hbTr
            have hqT := blk_below HGQ.out hbTr
            have t0 : WT.cell? ⟨w5.heap.size, 0, none⟩ = some (.int .i64 t.f0) := (blk_cell htt 0).trans rfl
            have t1 : WT.cell? ⟨w5.heap.size, 1, none⟩ = some (.int .i64 t.f1) := (blk_cell htt 1).trans rfl
            have t2 : WT.cell? ⟨w5.heap.size, 2, none⟩ = some (.int .i64 t.f2) := (blk_cell htt 2).trans rfl
            have t3 : WT.cell? ⟨w5.heap.size, 3, none⟩ = some (.int .i64 t.f3) := (blk_cell htt 3).trans rfl
            have t4 : WT.cell? ⟨w5.heap.size, 4, none⟩ = some (.slice A9 n9 c9) := (blk_cell htt 4).trans rfl
            have s0 : WT.cell? ⟨gs, 0, none⟩ = some (.int .i64 q.f0) := (blk_cell hqT 0).trans rfl
            have s1 : WT.cell? ⟨gs, 1, none⟩ = some (.int .i64 q.f1) := (blk_cell hqT 1).trans rfl
            have s2 : WT.cell? ⟨gs, 2, none⟩ = some (.int .i64 q.f2) := (blk_cell hqT 2).trans rfl
            have s3 : WT.cell? ⟨gs, 3, none⟩ = some (.int .i64 q.f3) := (blk_cell hqT 3).trans rfl
            have s4 : WT.cell? ⟨gs, 4, none⟩ = some (.slice A6 n6 c6) := (blk_cell hqT 4).trans rfl
            have f0 : WT.frozen? ⟨gs, 0, none⟩ = false := blk_frozen hqT 0
            have f1 : WT.frozen? ⟨gs, 1, none⟩ = false := blk_frozen hqT 1
            have f2 : WT.frozen? ⟨gs, 2, none⟩ = false := blk_frozen hqT 2
            have f3 : WT.frozen? ⟨gs, 3, none⟩ = false := blk_frozen hqT 3
            have f4 : WT.frozen? ⟨gs, 4, none⟩ = false := blk_frozen hqT 4
            have HQT := Lib.hid hqT
            have HRT := Lib.hid hRT
            have HN9 := Lib.hid hn9
            have HWL := Lib.hid (lt_of_block HGQ.out)
            clear htt hbTr hqT hRT hn9
            go_wp2
            go_roundg gk
            case measure => omega
            case rel =>
              have hwl := HWL.out
              have hgl := HGL.out
              have hr2 : Kd.R k46 46 (put5 WT gs (.int .i64 t.f0) (.int .i64 t.f1) (.int .i64 t.f2) (.int .i64 t.f3) (.slice A9 n9 c9)) WL.heap.size (fun k => WL.heap.size ≤ k) (.slice A9 n9 c9) t.f4 := R_other HRT.out (fun k hk => put5_other (by have h1 : WL.heap.size ≤ k := hk; omega) (.int .i64 t.f0) (.int .i64 t.f1) (.int .i64 t.f2) (.int .i64 t.f3) (.slice A9 n9 c9))
              have hc2 := (Kd.R_reads' hr2).2.2
              rw [HN9.out] at hc2
              have hd2 : Kd.R k50 50 (put5 WT gs (.int .i64 t.f0) (.int .i64 t.f1) (.int .i64 t.f2) (.int .i64 t.f3) (.slice A9 n9 c9)) w.heap.size (fun k => k ≠ gs) (.slice (some ad) nD c8) D := R_other50 HRD.out (Nat.le_refl _) (fun k hk => by
                have h1 : k ≠ gs := HRD.out.1 k hk
                obtain ⟨cl, hcl⟩ := own_typed (Kd.R_own HRD.out).choose_spec k hk
                exact ⟨h1, (put5_other h1 (.int .i64 t.f0) (.int .i64 t.f1) (.int .i64 t.f2) (.int .i64 t.f3) (.slice A9 n9 c9)).trans (HBTR.out.block k (lt_of_block hcl))⟩)
              exact ⟨i + 1, t, A9, c9, n9, by first | rfl | (congr 1), by omega, by omega, HN9.out.symm, hc9, HST2.out, put5_heap HQT.out (.int .i64 t.f0) (.int .i64 t.f1) (.int .i64 t.f2) (.int .i64 t.f3) (.slice A9 n9 c9), hc2, hd2, (put5_other (by omega) (.int .i64 t.f0) (.int .i64 t.f1) (.int .i64 t.f2) (.int .i64 t.f3) (.slice A9 n9 c9)).trans (blk_below HX1.out HBTR.out), (put5_other (by omega) (.int .i64 t.f0) (.int .i64 t.f1) (.int .i64 t.f2) (.int .i64 t.f3) (.slice A9 n9 c9)).trans (blk_below HX2.out HBTR.out), put5_below (HBR.out.trans (HBTR.out.mono HBR.out.size)) (by omega) (.int .i64 t.f0) (.int .i64 t.f1) (.int .i64 t.f2) (.int .i64 t.f3) (.slice A9 n9 c9)⟩
          · skip
            go_simp
            refine hK.out _ _ ?_ (fun hS_ => ?_)
            · show Below WL.heap.size WL _
              exact hS.alloc hS.size _
            clear hK K hS
            have hS : Below WL.heap.size WL _ := hS_
            clear hS_
            refine doD (i := 5) (ls2 := #[true, true, true, true, true, true, false, false, false, true, false, false]) (by kernel_rfl) rfl (by kernel_rfl) (by kernel_rfl) (fun K hK => ?_)
            go_simp
            go_wp2_with (first | (go_at_call 36; go_loud ((with_reducible refine (HSTP.out _ (Kd.C_below HCQ.out hS)).mono ?_); rintro e w5 ⟨A9, c9, rfl, hR9, hb5⟩; have hz5 := blk_below (blk_drew (heap_alloc_new _ _)) hb5; have y0 : w5.cell? ⟨WL.heap.size, 0, none⟩ = some (.int .i64 0) := (blk_cell hz5 0).trans rfl; have y1 : w5.cell? ⟨WL.heap.size, 1, none⟩ = some (.int .i64 0) := (blk_cell hz5 1).trans rfl; have y2 : w5.cell? ⟨WL.heap.size, 2, none⟩ = some (.int .i64 0) := (blk_cell hz5 2).trans rfl; have y3 : w5.cell? ⟨WL.heap.size, 3, none⟩ = some (.int .i64 0) := (blk_cell hz5 3).trans rfl; have y4 : w5.cell? ⟨WL.heap.size, 4, none⟩ = some (.slice none 0 0) := (blk_cell hz5 4).trans rfl; have e0 : w5.frozen? ⟨WL.heap.size, 0, none⟩ = false := blk_frozen hz5 0; have e1 : w5.frozen? ⟨WL.heap.size, 1, none⟩ = false := blk_frozen hz5 1; have e2 : w5.frozen? ⟨WL.heap.size, 2, none⟩ = false := blk_frozen hz5 2; have e3 : w5.frozen? ⟨WL.heap.size, 3, none⟩ = false := blk_frozen hz5 3; have e4 : w5.frozen? ⟨WL.heap.size, 4, none⟩ = false := blk_frozen hz5 4; have HZ5 := Lib.hid hz5; clear hz5)))
            have HRR9 := Lib.hid (R_reok (ok2 := fun k => WL.heap.size + 1 ≤ k) hR9 hS.size (fun k hk => by have h1 := (own_lt hR9 hk).1; simpa using h1))
            have HBB5 := Lib.hid (hS.trans (hb5.mono hS.size))
            refine hK.out _ _ ?_ (fun hS_ => ?_)
            · show Below WL.heap.size WL _
              exact HBB5.out
            clear hK K hS hb5 hR9
            have hS : Below WL.heap.size WL _ := hS_
            clear hS_
            refine takeE 6 (some 47) #[true, true, true, true, true, true, true, false, false, true, false, false] hS ?_
            refine takeE 7 (some 54) #[true, true, true, true, true, true, true, true, false, true, false, false] hS ?_
            refine takeE 8 (some 55) #[true, true, true, true, true, true, true, true, true, true, false, false] hS ?_
            refine doD (i := 10) (ls2 := #[true, true, true, true, true, true, true, true, true, true, true, false]) (by kernel_rfl) rfl (by kernel_rfl) (by kernel_rfl) (fun K hK => ?_)
            go_simp
            refine hK.out _ _ ?_ (fun hS_ => ?_)
            · show Below WL.heap.size WL _
              exact put5_below hS (Nat.le_refl _) (.int .i64 t.f0) (.int .i64 t.f1) (.int .i64 t.f2) (.int .i64 t.f3) (.slice A9 t.f4.length c9)
            clear hK K hS
            have hS : Below WL.heap.size WL _ := hS_
            clear hS_
            refine takeE 11 (some 11) #[true, true, true, true, true, true, true, true, true, true, true, true] hS ?_
            refine wpAnyH_done (by kernel_rfl) ?_ _
            try go_simp
            clear hS
            obtain ⟨n9, hn9⟩ : ∃ n9, t.f4.length = n9 := ⟨_, rfl⟩
            have hc9 := (Kd.R_reads' HRR9.out).2.1
            rw [hn9] at HRR9 hc9 ⊢
            obtain ⟨WT, hWT⟩ : ∃ W, W = ((((w5.setCell ⟨WL.heap.size, 0, none⟩ (.int .i64 t.f0)).setCell ⟨WL.heap.size, 1, none⟩ (.int .i64 t.f1)).setCell ⟨WL.heap.size, 2, none⟩ (.int .i64 t.f2)).setCell ⟨WL.heap.size, 3, none⟩ (.int .i64 t.f3)).setCell ⟨WL.heap.size, 4, none⟩ (.slice A9 n9 c9) := ⟨_, rfl⟩
            rw [← hWT]
            have htt : WT.heap[WL.heap.size]? = some (.cells #[.int .i64 t.f0, .int .i64 t.f1, .int .i64 t.f2, .int .i64 t.f3, .slice A9 n9 c9] 28 (0, 0)) := by rw [hWT]; exact put5_heap HZ5.out (.int .i64 t.f0) (.int .i64 t.f1) (.int .i64 t.f2) (.int .i64 t.f3) (.slice A9 n9 c9)
            have hbTr : Below WL.heap.size WL WT := by rw [hWT]; exact put5_below HBB5.out (Nat.le_refl _) (.int .i64 t.f0) (.int .i64 t.f1) (.int .i64 t.f2) (.int .i64 t.f3) (.slice A9 n9 c9)
            have hRT : Kd.R k46 46 WT WL.heap.size (fun k => WL.heap.size ≤ k) (.slice A9 n9 c9) t.f4 := R_ok (by rw [hWT]; exact R_other HRR9.out (fun k hk => put5_other (by have h1 : WL.heap.size + 1 ≤ k := hk; omega) (.int .i64 t.f0) (.int .i64 t.f1) (.int .i64 t.f2) (.int .i64 t.f3) (.slice A9 n9 c9))) (fun k hk => by have h1 : WL.heap.size + 1 ≤ k := hk; show WL.heap.size ≤ k; omega)
            clear hWT
            have HBTR := Lib.hid hbTr
            have hqT := blk_below HGQ.out hbTr
            have t0 : WT.cell? ⟨WL.heap.size, 0, none⟩ = some (.int .i64 t.f0) := (blk_cell htt 0).trans rfl
            have t1 : WT.cell? ⟨WL.heap.size, 1, none⟩ = some (.int .i64 t.f1) := (blk_cell htt 1).trans rfl
            have t2 : WT.cell? ⟨WL.heap.size, 2, none⟩ = some (.int .i64 t.f2) := (blk_cell htt 2).trans rfl
            have t3 : WT.cell? ⟨WL.heap.size, 3, none⟩ = some (.int .i64 t.f3) := (blk_cell htt 3).trans rfl
            have t4 : WT.cell? ⟨WL.heap.size, 4, none⟩ = some (.slice A9 n9 c9) := (blk_cell htt 4).trans rfl
            have s0 : WT.cell? ⟨gs, 0, none⟩ = some (.int .i64 q.f0) := (blk_cell hqT 0).trans rfl
            have s1 : WT.cell? ⟨gs, 1, none⟩ = some (.int .i64 q.f1) := (blk_cell hqT 1).trans rfl
            have s2 : WT.cell? ⟨gs, 2, none⟩ = some (.int .i64 q.f2) := (blk_cell hqT 2).trans rfl
            have s3 : WT.cell? ⟨gs, 3, none⟩ = some (.int .i64 q.f3) := (blk_cell hqT 3).trans rfl
            have s4 : WT.cell? ⟨gs, 4, none⟩ = some (.slice A6 n6 c6) := (blk_cell hqT 4).trans rfl
            have f0 : WT.frozen? ⟨gs, 0, none⟩ = false := blk_frozen hqT 0
            have f1 : WT.frozen? ⟨gs, 1, none⟩ = false := blk_frozen hqT 1
            have f2 : WT.frozen? ⟨gs, 2, none⟩ = false := blk_frozen hqT 2
            have f3 : WT.frozen? ⟨gs, 3, none⟩ = false := blk_frozen hqT 3
            have f4 : WT.frozen? ⟨gs, 4, none⟩ = false := blk_frozen hqT 4
            have HQT := Lib.hid hqT
            have HRT := Lib.hid hRT
            have HN9 := Lib.hid hn9
            have HWL := Lib.hid (lt_of_block HGQ.out)
            clear htt hbTr hqT hRT hn9
            go_wp2
            go_roundg gk
            case measure => omega
            case rel =>
              have hwl := HWL.out
              have hgl := HGL.out
              have hr2 : Kd.R k46 46 (put5 WT gs (.int .i64 t.f0) (.int .i64 t.f1) (.int .i64 t.f2) (.int .i64 t.f3) (.slice A9 n9 c9)) WL.heap.size (fun k => WL.heap.size ≤ k) (.slice A9 n9 c9) t.f4 := R_other HRT.out (fun k hk => put5_other (by have h1 : WL.heap.size ≤ k := hk; omega) (.int .i64 t.f0) (.int .i64 t.f1) (.int .i64 t.f2) (.int .i64 t.f3) (.slice A9 n9 c9))
              have hc2 := (Kd.R_reads' hr2).2.2
              rw [HN9.out] at hc2
              have hd2 : Kd.R k50 50 (put5 WT gs (.int .i64 t.f0) (.int .i64 t.f1) (.int .i64 t.f2) (.int .i64 t.f3) (.slice A9 n9 c9)) w.heap.size (fun k => k ≠ gs) (.slice (some ad) nD c8) D := R_other50 HRD.out (Nat.le_refl _) (fun k hk => by
                have h1 : k ≠ gs := HRD.out.1 k hk
                obtain ⟨cl, hcl⟩ := own_typed (Kd.R_own HRD.out).choose_spec k hk
                exact ⟨h1, (put5_other h1 (.int .i64 t.f0) (.int .i64 t.f1) (.int .i64 t.f2) (.int .i64 t.f3) (.slice A9 n9 c9)).trans (HBTR.out.block k (lt_of_block hcl))⟩)
              exact ⟨i + 1, t, A9, c9, n9, by first | rfl | (congr 1), by omega, by omega, HN9.out.symm, hc9, HST2.out, put5_heap HQT.out (.int .i64 t.f0) (.int .i64 t.f1) (.int .i64 t.f2) (.int .i64 t.f3) (.slice A9 n9 c9), hc2, hd2, (put5_other (by omega) (.int .i64 t.f0) (.int .i64 t.f1) (.int .i64 t.f2) (.int .i64 t.f3) (.slice A9 n9 c9)).trans (blk_below HX1.out HBTR.out), (put5_other (by omega) (.int .i64 t.f0) (.int .i64 t.f1) (.int .i64 t.f2) (.int .i64 t.f3) (.slice A9 n9 c9)).trans (blk_below HX2.out HBTR.out), put5_below (HBR.out.trans (HBTR.out.mono HBR.out.size)) (by omega) (.int .i64 t.f0) (.int .i64 t.f1) (.int .i64 t.f2) (.int .i64 t.f3) (.slice A9 n9 c9)⟩
    case rest =>
      obtain ⟨A6, c6, hgs, hcq, hc6, hx1, hx2, hbr⟩ := hcut
      obtain ⟨WM, hWM⟩ : ∃ W, W = wc := ⟨_, rfl⟩
      subst hWM
      have hrax := Kd.C_below HRA0.out hbr
      have hrbx := Kd.C_below HRB0.out hbr
      have hsm := headgateref16_Same.calls _ b.f0 b.f1 b.f2 b.f3 A6 c6 b.f4 b.f0 b.f1 b.f2 b.f3 Ab cb b.f4 true WM (by rw [HNB.out]; exact hcq) (by rw [HNB.out]; exact hc6) (by rw [HNB.out]; exact hrbx) (by rw [HNB.out]; exact hcb) (same_state b (by rw [HNB.out]; omega))
      rw [HNB.out] at hsm
      have HSM := Lib.hid hsm
      have z0 : WM.cell? ⟨gs, 0, none⟩ = some (.int .i64 b.f0) := (blk_cell hgs 0).trans rfl
      have z1 : WM.cell? ⟨gs, 1, none⟩ = some (.int .i64 b.f1) := (blk_cell hgs 1).trans rfl
      have z2 : WM.cell? ⟨gs, 2, none⟩ = some (.int .i64 b.f2) := (blk_cell hgs 2).trans rfl
      have z3 : WM.cell? ⟨gs, 3, none⟩ = some (.int .i64 b.f3) := (blk_cell hgs 3).trans rfl
      have z4 : WM.cell? ⟨gs, 4, none⟩ = some (.slice A6 nb c6) := (blk_cell hgs 4).trans rfl
      have x0 : WM.cell? ⟨w.heap.size + 1, 0, none⟩ = some (.int .i64 a.f0) := (blk_cell hx1 0).trans rfl
      have x1 : WM.cell? ⟨w.heap.size + 1, 1, none⟩ = some (.int .i64 a.f1) := (blk_cell hx1 1).trans rfl
      have x2 : WM.cell? ⟨w.heap.size + 1, 2, none⟩ = some (.int .i64 a.f2) := (blk_cell hx1 2).trans rfl
      have x3 : WM.cell? ⟨w.heap.size + 1, 3, none⟩ = some (.int .i64 a.f3) := (blk_cell hx1 3).trans rfl
      have x4 : WM.cell? ⟨w.heap.size + 1, 4, none⟩ = some (.slice Aa na ca) := (blk_cell hx1 4).trans rfl
      have y0 : WM.cell? ⟨w.heap.size + 1 + 1, 0, none⟩ = some (.int .i64 b.f0) := (blk_cell hx2 0).trans rfl
      have y1 : WM.cell? ⟨w.heap.size + 1 + 1, 1, none⟩ = some (.int .i64 b.f1) := (blk_cell hx2 1).trans rfl
      have y2 : WM.cell? ⟨w.heap.size + 1 + 1, 2, none⟩ = some (.int .i64 b.f2) := (blk_cell hx2 2).trans rfl
      have y3 : WM.cell? ⟨w.heap.size + 1 + 1, 3, none⟩ = some (.int .i64 b.f3) := (blk_cell hx2 3).trans rfl
      have y4 : WM.cell? ⟨w.heap.size + 1 + 1, 4, none⟩ = some (.slice Ab nb cb) := (blk_cell hx2 4).trans rfl
      have HGM := Lib.hid hgs
      have HCM := Lib.hid hcq
      have HX1M := Lib.hid hx1
      have HX2M := Lib.hid hx2
      have HBM := Lib.hid hbr
      have HRAM := Lib.hid hrax
      have HRBM := Lib.hid hrbx
      clear hsm hgs hcq hx1 hx2 hbr hrax hrbx hnDl
      go_upto_block 2 with (first | (go_at_call 18; go_loud ((with_reducible refine HSM.out.mono ?_); rintro e w9 ⟨rfl, hb9⟩; have q1 := blk_below HX1M.out hb9; have q2 := blk_below HX2M.out hb9; have x0 : w9.cell? ⟨w.heap.size + 1, 0, none⟩ = some (.int .i64 a.f0) := (blk_cell q1 0).trans rfl; have x1 : w9.cell? ⟨w.heap.size + 1, 1, none⟩ = some (.int .i64 a.f1) := (blk_cell q1 1).trans rfl; have x2 : w9.cell? ⟨w.heap.size + 1, 2, none⟩ = some (.int .i64 a.f2) := (blk_cell q1 2).trans rfl; have x3 : w9.cell? ⟨w.heap.size + 1, 3, none⟩ = some (.int .i64 a.f3) := (blk_cell q1 3).trans rfl; have x4 : w9.cell? ⟨w.heap.size + 1, 4, none⟩ = some (.slice Aa na ca) := (blk_cell q1 4).trans rfl; have y0 : w9.cell? ⟨w.heap.size + 1 + 1, 0, none⟩ = some (.int .i64 b.f0) := (blk_cell q2 0).trans rfl; have y1 : w9.cell? ⟨w.heap.size + 1 + 1, 1, none⟩ = some (.int .i64 b.f1) := (blk_cell q2 1).trans rfl; have y2 : w9.cell? ⟨w.heap.size + 1 + 1, 2, none⟩ = some (.int .i64 b.f2) := (blk_cell q2 2).trans rfl; have y3 : w9.cell? ⟨w.heap.size + 1 + 1, 3, none⟩ = some (.int .i64 b.f3) := (blk_cell q2 3).trans rfl; have y4 : w9.cell? ⟨w.heap.size + 1 + 1, 4, none⟩ = some (.slice Ab nb cb) := (blk_cell q2 4).trans rfl; have HRA9 := Lib.hid (Kd.C_below HRAM.out hb9); have HRB9 := Lib.hid (Kd.C_below HRBM.out hb9); have HB9 := Lib.hid hb9; clear hb9 q1 q2)) | (go_at_call 33; go_loud ((with_reducible refine (HDBA.out _ HRB9.out HRA9.out (by omega) (by omega)).mono ?_); rintro e w10 ⟨v10, rfl, hR10, hb10⟩; obtain ⟨A10, c10, rfl, hc10, _⟩ := Kd.R_reads hR10; have HR10 := Lib.hid hR10; have HB10 := Lib.hid (HB9.out.trans (hb10.mono HB9.out.size)); have HBZ := Lib.hid (HB9.out.size); clear hR10 hb10)))
      obtain ⟨nE, hnE⟩ : ∃ nE, E.length = nE := ⟨_, rfl⟩
      rw [hnE] at HR10 hc10 ⊢
      have HNE := Lib.hid hnE
      clear hnE
      have hnEl : nE ≤ 1000 := by have h1 := HLBA.out; have h2 := HNE.out; omega
      go_cut [13, 14, 15] from 66 to 83 (fun v13 v14 v15 wd => ∃ (A6 : Option Addr) (c6 : Nat), wd.heap[gs]? = some (.cells #[.int .i64 a.f0, .int .i64 a.f1, .int .i64 a.f2, .int .i64 a.f3, .slice A6 na c6] 28 (0, 0)) ∧ Kd.C k46 wd A6 na a.f4 ∧ na ≤ c6 ∧ wd.heap[w.heap.size + 1]? = some (.cells #[.int .i64 a.f0, .int .i64 a.f1, .int .i64 a.f2, .int .i64 a.f3, .slice Aa na ca] 28 (0, 0)) ∧ wd.heap[w.heap.size + 1 + 1]? = some (.cells #[.int .i64 b.f0, .int .i64 b.f1, .int .i64 b.f2, .int .i64 b.f3, .slice Ab nb cb] 28 (0, 0)) ∧ Below w.heap.size w wd)
      case first =>
        go_wp2
        go_loopg [13] nE (fun kq v13 wd => ∃ (i : Nat) (q : S28) (A6 : Option Addr) (c6 n6 : Nat), v13 = .int .i64 (i : Int) ∧ i ≤ nE ∧ nE - i ≤ kq ∧ n6 = q.f4.length ∧ n6 ≤ c6 ∧ Steps q (E.drop i) a ∧ wd.heap[gs]? = some (.cells #[.int .i64 q.f0, .int .i64 q.f1, .int .i64 q.f2, .int .i64 q.f3, .slice A6 n6 c6] 28 (0, 0)) ∧ Kd.C k46 wd A6 n6 q.f4 ∧ Kd.R k50 50 wd w.heap.size (fun k => k ≠ gs) (.slice A10 nE c10) E ∧ wd.heap[w.heap.size + 1]? = some (.cells #[.int .i64 a.f0, .int .i64 a.f1, .int .i64 a.f2, .int .i64 a.f3, .slice Aa na ca] 28 (0, 0)) ∧ wd.heap[w.heap.size + 1 + 1]? = some (.cells #[.int .i64 b.f0, .int .i64 b.f1, .int .i64 b.f2, .int .i64 b.f3, .slice Ab nb cb] 28 (0, 0)) ∧ Below w.heap.size w wd)
        case atStart => exact ⟨0, b, A6, c6, nb, rfl, Nat.zero_le _, by omega, HNB.out.symm, hc6, HSTBA.out, blk_below HGM.out HB10.out, Kd.C_below HCM.out HB10.out, R_other50 HR10.out (Nat.le_trans HBM.out.size HBZ.out) (fun k hk => ⟨by have h1 := Kd.R_base HR10.out k hk; have h2 := lt_of_block HGM.out; have h3 := HBZ.out; omega, rfl⟩), blk_below HX1M.out HB10.out, blk_below HX2M.out HB10.out, HBM.out.trans (HB10.out.mono HBM.out.size)⟩
        case round =>
          obtain ⟨i, q, A6, c6, n6, rfl, hin, hik, e6, hc6, hst, hgs, hcq, hrd, hx1, hx2, hbr⟩ := hrel
          obtain ⟨WL, hWL⟩ : ∃ W, W = wr := ⟨_, rfl⟩
          subst hWL
          have HGQ := Lib.hid hgs
          have HRD := Lib.hid hrd
          have HX1 := Lib.hid hx1
          have HX2 := Lib.hid hx2
          have HBR := Lib.hid hbr
          have HE6 := Lib.hid e6
          by_cases hlt : i < nE
          rotate_left
          · have d1 : decide ((i : Int) < (nE : Int)) = false := decide_eq_false (by omega)
            rw [List.drop_eq_nil_of_le (by have := HNE.out; omega)] at hst
            have hqb : q = a := hst
            have HQB := Lib.hid hqb
            have HCQ := Lib.hid hcq
            clear hgs hcq hrd hx1 hx2 hbr e6 hst hqb
            go_wp2
            go_meet
            case rel =>
              have hqb := HQB.out
              have h6 := HE6.out
              rw [hqb] at h6
              have h7 := HNA.out
              have h8 : n6 = na := by omega
              have hg := HGQ.out
              have hcq := HCQ.out
              rw [hqb, h8] at hg
              rw [hqb, h8] at hcq
              exact ⟨A6, c6, hg, hcq, by omega, HX1.out, HX2.out, HBR.out⟩
          · have d1 : decide ((i : Int) < (nE : Int)) = true := decide_eq_true (by omega)
            have hbi : (0 : Int) ≤ (i : Int) ∧ (i : Int) < (nE : Int) := by omega
            have hwi : IntKind.i64.wrap ((i : Int) + 1) = ((i + 1 : Nat) : Int) := by rw [IntKind.wrap_i64]; omega
            have hc50 : Kd.C k50 WL A10 E.length E := (Kd.R_reads' hrd).2.2
            rw [HNE.out] at hc50
            obtain ⟨ad, had, x0, x1, x2⟩ := at_T50 hc50 (i : Int) (by omega) (by omega)
            have HAD := Lib.hid had
            rw [Int.toNat_natCast] at x0 x1 x2
            have hlt2 : i < E.length := by have := HNE.out; omega
            have hrdd : rd_T50 E (i : Int) = E[i] := by simp [rd_T50, List.getD, List.getElem?_eq_getElem hlt2]
            rw [List.drop_eq_getElem_cons hlt2, ← hrdd] at hst
            obtain ⟨x, hx⟩ : ∃ x, rd_T50 E (i : Int) = x := ⟨_, rfl⟩
            rw [hx] at x0 x1 x2 hst
            obtain ⟨t, hstep, hst2⟩ := hst
            have hstp := fun (w : World) (h : Kd.C k46 w A6 q.f4.length q.f4) => hstep A6 c6 w h (by rw [← e6]; exact hc6)
            unfold stV at hstp
            rw [← e6] at hstp
            have HSTP := Lib.hid hstp
            have HST2 := Lib.hid hst2
            have HCQ := Lib.hid hcq
            have HY0 := Lib.hid x0
            have HY1 := Lib.hid x1
            have HY2 := Lib.hid x2
            subst had
            clear hstep hstp hst2 hcq hrdd hx hlt2 e6 hgs hrd hx1 hx2 hbr hc50 x0 x1 x2 HAD
            cases gk with
            | zero => omega
            | succ gk =>
            go_wp2
            refine wp_region_held_drew (S := fun w_ => Below WL.heap.size WL w_) (by kernel_rfl) (below_drew (Below.refl _ _)) (fun hS_ => ?_)
            have hS : Below WL.heap.size WL _ := hS_
            clear hS_
            change wpAnyH _ _ _ _ _ 12 #[false, false, false, false, false, false, false, false, false, false, false, false] _ _
            refine takeE 0 (some 73) #[true, false, false, false, false, false, false, false, false, false, false, false] hS ?_ (hy := fun w_ hS_ => by (replace hS_ : Below WL.heap.size WL w_ := hS_); have q_ := blk_below HGQ.out hS_; have z0 : w_.cell? ⟨gs, 0, none⟩ = some (.int .i64 q.f0) := (blk_cell q_ 0).trans rfl; have z1 : w_.cell? ⟨gs, 1, none⟩ = some (.int .i64 q.f1) := (blk_cell q_ 1).trans rfl; have z2 : w_.cell? ⟨gs, 2, none⟩ = some (.int .i64 q.f2) := (blk_cell q_ 2).trans rfl; have z3 : w_.cell? ⟨gs, 3, none⟩ = some (.int .i64 q.f3) := (blk_cell q_ 3).trans rfl; have z4 : w_.cell? ⟨gs, 4, none⟩ = some (.slice A6 n6 c6) := (blk_cell q_ 4).trans rfl; go_simp <;> with_reducible rfl)
            refine takeE 1 (some 74) #[true, true, false, false, false, false, false, false, false, false, false, false] hS ?_
            refine takeE 2 (some 75) #[true, true, true, false, false, false, false, false, false, false, false, false] hS ?_
            refine takeE 3 (some 76) #[true, true, true, true, false, false, false, false, false, false, false, false] hS ?_
            refine takeE 4 (some 77) #[true, true, true, true, true, false, false, false, false, false, false, false] hS ?_ (hy := fun w_ hS_ => by (replace hS_ : Below WL.heap.size WL w_ := hS_); have y0_ := below_cell hS_ HY0.out; have y1_ := below_cell hS_ HY1.out; have y2_ := below_cell hS_ HY2.out; go_simp <;> with_reducible rfl)
            refine doD2 (i := 5) (j := 9) (l2 := #[true, true, true, true, true, true, false, false, false, false, false, false]) (l3 := #[true, true, true, true, true, false, false, false, false, true, false, false]) (by kernel_rfl) rfl rfl (by kernel_rfl) (by kernel_rfl) (by kernel_rfl) (by kernel_rfl) (fun K hK => ?_) (fun K hK => ?_)
            · skip
              go_simp
              go_wp2_with (first | (go_at_call 36; go_loud ((with_reducible refine (HSTP.out _ (Kd.C_below HCQ.out hS)).mono ?_); rintro e w5 ⟨A9, c9, rfl, hR9, hb5⟩)))
              have HRR9 := Lib.hid (R_reok (ok2 := fun k => WL.heap.size ≤ k) hR9 hS.size (fun k hk => Nat.le_trans hS.size (own_lt hR9 hk).1))
              have HBB5 := Lib.hid (hS.trans (hb5.mono hS.size))
              refine hK.out _ _ ?_ (fun hS_ => ?_)
              · show Below WL.heap.size WL _
                exact HBB5.out
              clear hK K hS hb5 hR9
              have hS : Below WL.heap.size WL _ := hS_
              clear hS_
              refine takeE 6 (some 72) #[true, true, true, true, true, true, true, false, false, false, false, false] hS ?_
              refine takeE 7 (some 79) #[true, true, true, true, true, true, true, true, false, false, false, false] hS ?_
              refine takeE 8 (some 80) #[true, true, true, true, true, true, true, true, true, false, false, false] hS ?_
              have hSr := Lib.hid hS
              refine doD (i := 9) (ls2 := #[true, true, true, true, true, true, true, true, true, true, false, false]) (by kernel_rfl) rfl (by kernel_rfl) (by kernel_rfl) (fun K hK => ?_)
              go_simp
              refine hK.out _ _ ?_ (fun hS_ => ?_)
              · show Below WL.heap.size WL _
                exact hS.alloc hS.size _
              clear hK K hS
              have hS : Below WL.heap.size WL _ := hS_
              clear hS_
              refine doD (i := 10) (ls2 := #[true, true, true, true, true, true, true, true, true, true, true, false]) (by kernel_rfl) rfl (by kernel_rfl) (by kernel_rfl) (fun K hK => ?_)
              go_simp
              refine hK.out _ _ ?_ (fun hS_ => ?_)
              · show Below WL.heap.size WL _
                exact (hSr.out).alloc hSr.out.size _
              clear hK K hS
              have hS : Below WL.heap.size WL _ := hS_
              clear hS_
              refine takeE 11 (some 15) #[true, true, true, true, true, true, true, true, true, true, true, true] hS ?_
              refine wpAnyH_done (by kernel_rfl) ?_ _
              try go_simp
              clear hS hSr
              obtain ⟨n9, hn9⟩ : ∃ n9, t.f4.length = n9 := ⟨_, rfl⟩
              have hc9 := (Kd.R_reads' HRR9.out).2.1
              rw [hn9] at HRR9 hc9 ⊢
              obtain ⟨WT, hWT⟩ : ∃ W, W = w5.alloc (.cells #[.int .i64 t.f0, .int .i64 t.f1, .int .i64 t.f2, .int .i64 t.f3, .slice A9 n9 c9] 28) := ⟨_, rfl⟩
              rw [← hWT]
              have htt : WT.heap[w5.heap.size]? = some (.cells #[.int .i64 t.f0, .int .i64 t.f1, .int .i64 t.f2, .int .i64 t.f3, .slice A9 n9 c9] 28 (0, 0)) := by rw [hWT]; exact heap_alloc_new _ _
              have hbT : Below w5.heap.size w5 WT := by rw [hWT]; exact (Below.refl _ _).alloc (Nat.le_refl _) _
              have hbTr : Below WL.heap.size WL WT := HBB5.out.trans (hbT.mono HBB5.out.size)
              have hRT := Kd.R_below HRR9.out hbT
              clear hWT hbT
              have HBTR := Lib.hid hbTr
              have hqT := blk_below HGQ.out hbTr
              have t0 : WT.cell? ⟨w5.heap.size, 0, none⟩ = some (.int .i64 t.f0) := (blk_cell htt 0).trans rfl
              have t1 : WT.cell? ⟨w5.heap.size, 1, none⟩ = some (.int .i64 t.f1) := (blk_cell htt 1).trans rfl
              have t2 : WT.cell? ⟨w5.heap.size, 2, none⟩ = some (.int .i64 t.f2) := (blk_cell htt 2).trans rfl
              have t3 : WT.cell? ⟨w5.heap.size, 3, none⟩ = some (.int .i64 t.f3) := (blk_cell htt 3).trans rfl
              have t4 : WT.cell? ⟨w5.heap.size, 4, none⟩ = some (.slice A9 n9 c9) := (blk_cell htt 4).trans rfl
              have s0 : WT.cell? ⟨gs, 0, none⟩ = some (.int .i64 q.f0) := (blk_cell hqT 0).trans rfl
              have s1 : WT.cell? ⟨gs, 1, none⟩ = some (.int .i64 q.f1) := (blk_cell hqT 1).trans rfl
              have s2 : WT.cell? ⟨gs, 2, none⟩ = some (.int .i64 q.f2) := (blk_cell hqT 2).trans rfl
              have s3 : WT.cell? ⟨gs, 3, none⟩ = some (.int .i64 q.f3) := (blk_cell hqT 3).trans rfl
              have s4 : WT.cell? ⟨gs, 4, none⟩ = some (.slice A6 n6 c6) := (blk_cell hqT 4).trans rfl
              have f0 : WT.frozen? ⟨gs, 0, none⟩ = false := blk_frozen hqT 0
              have f1 : WT.frozen? ⟨gs, 1, none⟩ = false := blk_frozen hqT 1
              have f2 : WT.frozen? ⟨gs, 2, none⟩ = false := blk_frozen hqT 2
              have f3 : WT.frozen? ⟨gs, 3, none⟩ = false := blk_frozen hqT 3
              have f4 : WT.frozen? ⟨gs, 4, none⟩ = false := blk_frozen hqT 4
              have HQT := Lib.hid hqT
              have HRT := Lib.hid hRT
              have HN9 := Lib.hid hn9
              have HWL := Lib.hid (lt_of_block HGQ.out)
              clear htt hbTr hqT hRT hn9
              go_wp2
              go_roundg gk
              case measure => omega
              case rel =>
                have hwl := HWL.out
                have hgl := HGL.out
                have hr2 : Kd.R k46 46 (put5 WT gs (.int .i64 t.f0) (.int .i64 t.f1) (.int .i64 t.f2) (.int .i64 t.f3) (.slice A9 n9 c9)) WL.heap.size (fun k => WL.heap.size ≤ k) (.slice A9 n9 c9) t.f4 := R_other HRT.out (fun k hk => put5_other (by have h1 : WL.heap.size ≤ k := hk; omega) (.int .i64 t.f0) (.int .i64 t.f1) (.int .i64 t.f2) (.int .i64 t.f3) (.slice A9 n9 c9))
                have hc2 := (Kd.R_reads' hr2).2.2
                rw [HN9.out] at hc2
                have hd2 : Kd.R k50 50 (put5 WT gs (.int .i64 t.f0) (.int .i64 t.f1) (.int .i64 t.f2) (.int .i64 t.f3) (.slice A9 n9 c9)) w.heap.size (fun k => k ≠ gs) (.slice (some ad) nE c10) E := R_other50 HRD.out (Nat.le_refl _) (fun k hk => by
                  have h1 : k ≠ gs := HRD.out.1 k hk
                  obtain ⟨cl, hcl⟩ := own_typed (Kd.R_own HRD.out).choose_spec k hk
                  exact ⟨h1, (put5_other h1 (.int .i64 t.f0) (.int .i64 t.f1) (.int .i64 t.f2) (.int .i64 t.f3) (.slice A9 n9 c9)).trans (HBTR.out.block k (lt_of_block hcl))⟩)
                exact ⟨i + 1, t, A9, c9, n9, by first | rfl | (congr 1), by omega, by omega, HN9.out.symm, hc9, HST2.out, put5_heap HQT.out (.int .i64 t.f0) (.int .i64 t.f1) (.int .i64 t.f2) (.int .i64 t.f3) (.slice A9 n9 c9), hc2, hd2, (put5_other (by omega) (.int .i64 t.f0) (.int .i64 t.f1) (.int .i64 t.f2) (.int .i64 t.f3) (.slice A9 n9 c9)).trans (blk_below HX1.out HBTR.out), (put5_other (by omega) (.int .i64 t.f0) (.int .i64 t.f1) (.int .i64 t.f2) (.int .i64 t.f3) (.slice A9 n9 c9)).trans (blk_below HX2.out HBTR.out), put5_below (HBR.out.trans (HBTR.out.mono HBR.out.size)) (by omega) (.int .i64 t.f0) (.int .i64 t.f1) (.int .i64 t.f2) (.int .i64 t.f3) (.slice A9 n9 c9)⟩
            · skip
              go_simp
              refine hK.out _ _ ?_ (fun hS_ => ?_)
              · show Below WL.heap.size WL _
                exact hS.alloc hS.size _
              clear hK K hS
              have hS : Below WL.heap.size WL _ := hS_
              clear hS_
              refine doD (i := 5) (ls2 := #[true, true, true, true, true, true, false, false, false, true, false, false]) (by kernel_rfl) rfl (by kernel_rfl) (by kernel_rfl) (fun K hK => ?_)
              go_simp
              go_wp2_with (first | (go_at_call 36; go_loud ((with_reducible refine (HSTP.out _ (Kd.C_below HCQ.out hS)).mono ?_); rintro e w5 ⟨A9, c9, rfl, hR9, hb5⟩; have hz5 := blk_below (blk_drew (heap_alloc_new _ _)) hb5; have y0 : w5.cell? ⟨WL.heap.size, 0, none⟩ = some (.int .i64 0) := (blk_cell hz5 0).trans rfl; have y1 : w5.cell? ⟨WL.heap.size, 1, none⟩ = some (.int .i64 0) := (blk_cell hz5 1).trans rfl; have y2 : w5.cell? ⟨WL.heap.size, 2, none⟩ = some (.int .i64 0) := (blk_cell hz5 2).trans rfl; have y3 : w5.cell? ⟨WL.heap.size, 3, none⟩ = some (.int .i64 0) := (blk_cell hz5 3).trans rfl; have y4 : w5.cell? ⟨WL.heap.size, 4, none⟩ = some (.slice none 0 0) := (blk_cell hz5 4).trans rfl; have e0 : w5.frozen? ⟨WL.heap.size, 0, none⟩ = false := blk_frozen hz5 0; have e1 : w5.frozen? ⟨WL.heap.size, 1, none⟩ = false := blk_frozen hz5 1; have e2 : w5.frozen? ⟨WL.heap.size, 2, none⟩ = false := blk_frozen hz5 2; have e3 : w5.frozen? ⟨WL.heap.size, 3, none⟩ = false := blk_frozen hz5 3; have e4 : w5.frozen? ⟨WL.heap.size, 4, none⟩ = false := blk_frozen hz5 4; have HZ5 := Lib.hid hz5; clear hz5)))
              have HRR9 := Lib.hid (R_reok (ok2 := fun k => WL.heap.size + 1 ≤ k) hR9 hS.size (fun k hk => by have h1 := (own_lt hR9 hk).1; simpa using h1))
              have HBB5 := Lib.hid (hS.trans (hb5.mono hS.size))
              refine hK.out _ _ ?_ (fun hS_ => ?_)
              · show Below WL.heap.size WL _
                exact HBB5.out
              clear hK K hS hb5 hR9
              have hS : Below WL.heap.size WL _ := hS_
              clear hS_
              refine takeE 6 (some 72) #[true, true, true, true, true, true, true, false, false, true, false, false] hS ?_
              refine takeE 7 (some 79) #[true, true, true, true, true, true, true, true, false, true, false, false] hS ?_
              refine takeE 8 (some 80) #[true, true, true, true, true, true, true, true, true, true, false, false] hS ?_
              refine doD (i := 10) (ls2 := #[true, true, true, true, true, true, true, true, true, true, true, false]) (by kernel_rfl) rfl (by kernel_rfl) (by kernel_rfl) (fun K hK => ?_)
              go_simp
              refine hK.out _ _ ?_ (fun hS_ => ?_)
              · show Below WL.heap.size WL _
                exact put5_below hS (Nat.le_refl _) (.int .i64 t.f0) (.int .i64 t.f1) (.int .i64 t.f2) (.int .i64 t.f3) (.slice A9 t.f4.length c9)
              clear hK K hS
              have hS : Below WL.heap.size WL _ := hS_
              clear hS_
              refine takeE 11 (some 15) #[true, true, true, true, true, true, true, true, true, true, true, true] hS ?_
              refine wpAnyH_done (by kernel_rfl) ?_ _
              try go_simp
              clear hS
              obtain ⟨n9, hn9⟩ : ∃ n9, t.f4.length = n9 := ⟨_, rfl⟩
              have hc9 := (Kd.R_reads' HRR9.out).2.1
              rw [hn9] at HRR9 hc9 ⊢
              obtain ⟨WT, hWT⟩ : ∃ W, W = ((((w5.setCell ⟨WL.heap.size, 0, none⟩ (.int .i64 t.f0)).setCell ⟨WL.heap.size, 1, none⟩ (.int .i64 t.f1)).setCell ⟨WL.heap.size, 2, none⟩ (.int .i64 t.f2)).setCell ⟨WL.heap.size, 3, none⟩ (.int .i64 t.f3)).setCell ⟨WL.heap.size, 4, none⟩ (.slice A9 n9 c9) := ⟨_, rfl⟩
              rw [← hWT]
              have htt : WT.heap[WL.heap.size]? = some (.cells #[.int .i64 t.f0, .int .i64 t.f1, .int .i64 t.f2, .int .i64 t.f3, .slice A9 n9 c9] 28 (0, 0)) := by rw [hWT]; exact put5_heap HZ5.out (.int .i64 t.f0) (.int .i64 t.f1) (.int .i64 t.f2) (.int .i64 t.f3) (.slice A9 n9 c9)
              have hbTr : Below WL.heap.size WL WT := by rw [hWT]; exact put5_below HBB5.out (Nat.le_refl _) (.int .i64 t.f0) (.int .i64 t.f1) (.int .i64 t.f2) (.int .i64 t.f3) (.slice A9 n9 c9)
              have hRT : Kd.R k46 46 WT WL.heap.size (fun k => WL.heap.size ≤ k) (.slice A9 n9 c9) t.f4 := R_ok (by rw [hWT]; exact R_other HRR9.out (fun k hk => put5_other (by have h1 : WL.heap.size + 1 ≤ k := hk; omega) (.int .i64 t.f0) (.int .i64 t.f1) (.int .i64 t.f2) (.int .i64 t.f3) (.slice A9 n9 c9))) (fun k hk => by have h1 : WL.heap.size + 1 ≤ k := hk; show WL.heap.size ≤ k; omega)
              clear hWT
              have HBTR := Lib.hid hbTr
              have hqT := blk_below HGQ.out hbTr
              have t0 : WT.cell? ⟨WL.heap.size, 0, none⟩ = some (.int .i64 t.f0) := (blk_cell htt 0).trans rfl
              have t1 : WT.cell? ⟨WL.heap.size, 1, none⟩ = some (.int .i64 t.f1) := (blk_cell htt 1).trans rfl
              have t2 : WT.cell? ⟨WL.heap.size, 2, none⟩ = some (.int .i64 t.f2) := (blk_cell htt 2).trans rfl
              have t3 : WT.cell? ⟨WL.heap.size, 3, none⟩ = some (.int .i64 t.f3) := (blk_cell htt 3).trans rfl
              have t4 : WT.cell? ⟨WL.heap.size, 4, none⟩ = some (.slice A9 n9 c9) := (blk_cell htt 4).trans rfl
              have s0 : WT.cell? ⟨gs, 0, none⟩ = some (.int .i64 q.f0) := (blk_cell hqT 0).trans rfl
              have s1 : WT.cell? ⟨gs, 1, none⟩ = some (.int .i64 q.f1) := (blk_cell hqT 1).trans rfl
              have s2 : WT.cell? ⟨gs, 2, none⟩ = some (.int .i64 q.f2) := (blk_cell hqT 2).trans rfl
              have s3 : WT.cell? ⟨gs, 3, none⟩ = some (.int .i64 q.f3) := (blk_cell hqT 3).trans rfl
              have s4 : WT.cell? ⟨gs, 4, none⟩ = some (.slice A6 n6 c6) := (blk_cell hqT 4).trans rfl
              have f0 : WT.frozen? ⟨gs, 0, none⟩ = false := blk_frozen hqT 0
              have f1 : WT.frozen? ⟨gs, 1, none⟩ = false := blk_frozen hqT 1
              have f2 : WT.frozen? ⟨gs, 2, none⟩ = false := blk_frozen hqT 2
              have f3 : WT.frozen? ⟨gs, 3, none⟩ = false := blk_frozen hqT 3
              have f4 : WT.frozen? ⟨gs, 4, none⟩ = false := blk_frozen hqT 4
              have HQT := Lib.hid hqT
              have HRT := Lib.hid hRT
              have HN9 := Lib.hid hn9
              have HWL := Lib.hid (lt_of_block HGQ.out)
              clear htt hbTr hqT hRT hn9
              go_wp2
              go_roundg gk
              case measure => omega
              case rel =>
                have hwl := HWL.out
                have hgl := HGL.out
                have hr2 : Kd.R k46 46 (put5 WT gs (.int .i64 t.f0) (.int .i64 t.f1) (.int .i64 t.f2) (.int .i64 t.f3) (.slice A9 n9 c9)) WL.heap.size (fun k => WL.heap.size ≤ k) (.slice A9 n9 c9) t.f4 := R_other HRT.out (fun k hk => put5_other (by have h1 : WL.heap.size ≤ k := hk; omega) (.int .i64 t.f0) (.int .i64 t.f1) (.int .i64 t.f2) (.int .i64 t.f3) (.slice A9 n9 c9))
                have hc2 := (Kd.R_reads' hr2).2.2
                rw [HN9.out] at hc2
                have hd2 : Kd.R k50 50 (put5 WT gs (.int .i64 t.f0) (.int .i64 t.f1) (.int .i64 t.f2) (.int .i64 t.f3) (.slice A9 n9 c9)) w.heap.size (fun k => k ≠ gs) (.slice (some ad) nE c10) E := R_other50 HRD.out (Nat.le_refl _) (fun k hk => by
                  have h1 : k ≠ gs := HRD.out.1 k hk
                  obtain ⟨cl, hcl⟩ := own_typed (Kd.R_own HRD.out).choose_spec k hk
                  exact ⟨h1, (put5_other h1 (.int .i64 t.f0) (.int .i64 t.f1) (.int .i64 t.f2) (.int .i64 t.f3) (.slice A9 n9 c9)).trans (HBTR.out.block k (lt_of_block hcl))⟩)
                exact ⟨i + 1, t, A9, c9, n9, by first | rfl | (congr 1), by omega, by omega, HN9.out.symm, hc9, HST2.out, put5_heap HQT.out (.int .i64 t.f0) (.int .i64 t.f1) (.int .i64 t.f2) (.int .i64 t.f3) (.slice A9 n9 c9), hc2, hd2, (put5_other (by omega) (.int .i64 t.f0) (.int .i64 t.f1) (.int .i64 t.f2) (.int .i64 t.f3) (.slice A9 n9 c9)).trans (blk_below HX1.out HBTR.out), (put5_other (by omega) (.int .i64 t.f0) (.int .i64 t.f1) (.int .i64 t.f2) (.int .i64 t.f3) (.slice A9 n9 c9)).trans (blk_below HX2.out HBTR.out), put5_below (HBR.out.trans (HBTR.out.mono HBR.out.size)) (by omega) (.int .i64 t.f0) (.int .i64 t.f1) (.int .i64 t.f2) (.int .i64 t.f3) (.slice A9 n9 c9)⟩
      case rest =>
        obtain ⟨A7, c7, hgs, hcq, hc7, hx1, hx2, hbr⟩ := hcut
        obtain ⟨WN, hWN⟩ : ∃ W, W = wc := ⟨_, rfl⟩
        subst hWN
        have hrax := Kd.C_below HRA0.out hbr
        have hsm := headgateref16_Same.calls _ a.f0 a.f1 a.f2 a.f3 A7 c7 a.f4 a.f0 a.f1 a.f2 a.f3 Aa ca a.f4 true WN (by rw [HNA.out]; exact hcq) (by rw [HNA.out]; exact hc7) (by rw [HNA.out]; exact hrax) (by rw [HNA.out]; exact hca) (same_state a (by rw [HNA.out]; omega))
        have hdaa := fun (w : World) (h1 : Kd.C k46 w A7 a.f4.length a.f4) (h2 : Kd.C k46 w Aa a.f4.length a.f4) => diff_calls a a HAR.out HAR.out A7 Aa c7 ca w h1 (by rw [HNA.out]; exact hc7) h2 (by rw [HNA.out]; exact hca) (by rw [HNA.out]; omega) (by rw [HNA.out]; omega)
        rw [diff_same] at hdaa
        rw [HNA.out] at hsm hdaa
        have HSM2 := Lib.hid hsm
        have HDAA := Lib.hid hdaa
        have z0 : WN.cell? ⟨gs, 0, none⟩ = some (.int .i64 a.f0) := (blk_cell hgs 0).trans rfl
        have z1 : WN.cell? ⟨gs, 1, none⟩ = some (.int .i64 a.f1) := (blk_cell hgs 1).trans rfl
        have z2 : WN.cell? ⟨gs, 2, none⟩ = some (.int .i64 a.f2) := (blk_cell hgs 2).trans rfl
        have z3 : WN.cell? ⟨gs, 3, none⟩ = some (.int .i64 a.f3) := (blk_cell hgs 3).trans rfl
        have z4 : WN.cell? ⟨gs, 4, none⟩ = some (.slice A7 na c7) := (blk_cell hgs 4).trans rfl
        have x0 : WN.cell? ⟨w.heap.size + 1, 0, none⟩ = some (.int .i64 a.f0) := (blk_cell hx1 0).trans rfl
        have x1 : WN.cell? ⟨w.heap.size + 1, 1, none⟩ = some (.int .i64 a.f1) := (blk_cell hx1 1).trans rfl
        have x2 : WN.cell? ⟨w.heap.size + 1, 2, none⟩ = some (.int .i64 a.f2) := (blk_cell hx1 2).trans rfl
        have x3 : WN.cell? ⟨w.heap.size + 1, 3, none⟩ = some (.int .i64 a.f3) := (blk_cell hx1 3).trans rfl
        have x4 : WN.cell? ⟨w.heap.size + 1, 4, none⟩ = some (.slice Aa na ca) := (blk_cell hx1 4).trans rfl
        have HGN := Lib.hid hgs
        have HCN := Lib.hid hcq
        have HX1N := Lib.hid hx1
        have HBN := Lib.hid hbr
        have HRAN := Lib.hid hrax
        clear hsm hdaa hgs hcq hx1 hx2 hbr hrax
        go_wp2_with (first | (go_at_call 18; go_loud ((with_reducible refine HSM2.out.mono ?_); rintro e w11 ⟨rfl, hb11⟩; have q0 := blk_below HGN.out hb11; have q1 := blk_below HX1N.out hb11; have z0 : w11.cell? ⟨gs, 0, none⟩ = some (.int .i64 a.f0) := (blk_cell q0 0).trans rfl; have z1 : w11.cell? ⟨gs, 1, none⟩ = some (.int .i64 a.f1) := (blk_cell q0 1).trans rfl; have z2 : w11.cell? ⟨gs, 2, none⟩ = some (.int .i64 a.f2) := (blk_cell q0 2).trans rfl; have z3 : w11.cell? ⟨gs, 3, none⟩ = some (.int .i64 a.f3) := (blk_cell q0 3).trans rfl; have z4 : w11.cell? ⟨gs, 4, none⟩ = some (.slice A7 na c7) := (blk_cell q0 4).trans rfl; have x0 : w11.cell? ⟨w.heap.size + 1, 0, none⟩ = some (.int .i64 a.f0) := (blk_cell q1 0).trans rfl; have x1 : w11.cell? ⟨w.heap.size + 1, 1, none⟩ = some (.int .i64 a.f1) := (blk_cell q1 1).trans rfl; have x2 : w11.cell? ⟨w.heap.size + 1, 2, none⟩ = some (.int .i64 a.f2) := (blk_cell q1 2).trans rfl; have x3 : w11.cell? ⟨w.heap.size + 1, 3, none⟩ = some (.int .i64 a.f3) := (blk_cell q1 3).trans rfl; have x4 : w11.cell? ⟨w.heap.size + 1, 4, none⟩ = some (.slice Aa na ca) := (blk_cell q1 4).trans rfl; have HRA11 := Lib.hid (Kd.C_below HRAN.out hb11); have HC11 := Lib.hid (Kd.C_below HCN.out hb11); have HB11 := Lib.hid (HBN.out.trans (hb11.mono HBN.out.size)); clear hb11 q0 q1)) | (go_at_call 33; go_loud ((with_reducible refine (HDAA.out _ HC11.out HRA11.out).mono ?_); rintro e w12 ⟨v12, rfl, hR12, hb12⟩; obtain ⟨A12, c12, rfl, hc12, _⟩ := Kd.R_reads hR12; have HB12 := Lib.hid (HB11.out.trans (hb12.mono HB11.out.size)); clear hR12 hb12)) | (go_at_call 31; go_loud ((with_reducible refine (HAW.out _).mono ?_); rintro e w13 ⟨rfl, hb13⟩; have HB13 := Lib.hid (HB12.out.trans (hb13.mono HB12.out.size)); clear hb13)))
        go_ret
        exact ⟨rfl, HB13.out⟩
end Go.Proofs.Ytgipepjpkmlmaaa.P
