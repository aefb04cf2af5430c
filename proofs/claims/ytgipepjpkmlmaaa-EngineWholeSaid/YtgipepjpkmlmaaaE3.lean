import Derived.Test.YtgipepjpkmlmaaaE1
import Derived.Test.YtgipepjpkmlmaaaE2
import Derived.Test.YtgipepjpkmlmaaaM1
namespace Go.Proofs.Ytgipepjpkmlmaaa.P
open Go.RowKit Go.Proofs.YtgipepjpkmlmaaaW.PrintWords Go.Proofs.YtgipepjpkmlmaaaW.PrintLast Go.Proofs.YtgipepjpkmlmaaaW.PrintMore
set_option linter.unusedVariables false
set_option linter.unusedSimpArgs false

theorem checkP_grid {g : S23} {s : S28} (h : checkP g s = true) : chkG g = true := by
  unfold checkP at h
  cases hp : preOk g s with
  | false => rw [hp, chkL_false] at h; cases h
  | true =>
    unfold preOk at hp
    simp only [Bool.and_eq_true] at hp
    exact hp.1
theorem drew_heap (w : World) : w.drew.heap = w.heap := rfl
theorem put5_drew {w : World} {g k : Nat} (h : k ≠ g) (a0 a1 a2 a3 a4 : Value) : (put5 w g a0 a1 a2 a3 a4).drew.heap[k]? = w.heap[k]? := by
  rw [drew_heap]
  exact put5_other (w := w) h _ _ _ _ _
/-- What Feed leaves: the state, what is over, the error. -/
def feedP (g : S23) (s : S28) (r : S50) : S28 × List S46 × Int :=
  if (checkP g s && ([r.f0, r.f1].all inB && !decide (r.f0 > 1048576))) = true then
    if s.f3 = 1099511627776 then (z28, [], 6)
    else if (valP r.f2).2 = true then
      let st := keepI g s.f0 (startsP g r.f1)
      let l1 := takeN r.f0 (valP r.f2).1 st s.f4
      let drop := decide (st.length = 0) || !decide (l1.length ≤ 64)
      let l2 := if drop = true then s.f4 else l1
      let m := mx s.f0 r.f1
      (⟨m, if drop = true then wrap64 (s.f1 + 1) else s.f1, s.f2, wrap64 (s.f3 + 1), l2.filter (fun c => !closedP g c.f1 m)⟩, l2.filter (fun c => closedP g c.f1 m), 0)
    else (⟨s.f0, s.f1, wrap64 (s.f2 + 1), wrap64 (s.f3 + 1), s.f4⟩, [], 0)
  else (z28, [], 1)
/-- What Feed's result says of memory. -/
def FedP (w : World) (p : S28 × List S46 × Int) (e : Ending) (w' : World) : Prop :=
  ∃ v4 vo, e = .returned (.tuple #[.agg #[.int .i64 p.1.f0, .int .i64 p.1.f1, .int .i64 p.1.f2, .int .i64 p.1.f3, v4], vo, .int .i64 p.2.2]) ∧ Kd.R k46 46 w' w.heap.size (fun _ => True) v4 p.1.f4 ∧ Kd.R k46 46 w' w.heap.size (fun _ => True) vo p.2.1 ∧ Below w.heap.size w w'
set_option maxHeartbeats 16000000 in
set_option maxRecDepth 100000 in
theorem feed_calls (g : S23) (s : S28) (r : S50) (A : Option Addr) (c : Nat) (w : World) (hr : k46.C w A s.f4.length s.f4) (hc : s.f4.length ≤ c) (hl : s.f4.length ≤ 1000) (hn : A = none → s.f4 = [] ∧ c = 0) (hs : r.f2.size ≤ 1000000000) :
    Calls Try.prog 29 #[gridV g, .agg #[.int .i64 s.f0, .int .i64 s.f1, .int .i64 s.f2, .int .i64 s.f3, .slice A s.f4.length c], .agg #[.int .i64 r.f0, .int .i64 r.f1, .string r.f2]] w (FedP w (feedP g s r)) := by
  obtain ⟨FP, hFP⟩ : ∃ p, feedP g s r = p := ⟨_, rfl⟩
  rw [hFP]
  have HFP := Lib.hid hFP
  clear hFP
  obtain ⟨W4, hW4⟩ : ∃ W, W = ((((w.alloc (.cells #[.int .i64 g.f0, .int .i64 g.f1, .int .i64 g.f2] 23)).alloc (.cells #[.int .i64 s.f0, .int .i64 s.f1, .int .i64 s.f2, .int .i64 s.f3, .slice A s.f4.length c] 28)).alloc (.cells #[.int .i64 r.f0, .int .i64 r.f1, .string r.f2] 50)).alloc (.cells #[.int .i64 0, .int .i64 0, .int .i64 0, .int .i64 0, .slice none 0 0] 28)) := ⟨_, rfl⟩
  have hgg : W4.heap[w.heap.size]? = some (.cells #[.int .i64 g.f0, .int .i64 g.f1, .int .i64 g.f2] 23 (0, 0)) := by
    rw [hW4, Below.heap_alloc _ _ _ (by simp; omega), Below.heap_alloc _ _ _ (by simp; omega), Below.heap_alloc _ _ _ (by simp)]
    exact heap_alloc_new _ _
  have hgs : W4.heap[w.heap.size + 1]? = some (.cells #[.int .i64 s.f0, .int .i64 s.f1, .int .i64 s.f2, .int .i64 s.f3, .slice A s.f4.length c] 28 (0, 0)) := by
    rw [hW4, Below.heap_alloc _ _ _ (by simp), Below.heap_alloc _ _ _ (by simp)]
    have := heap_alloc_new (w.alloc (.cells #[.int .i64 g.f0, .int .i64 g.f1, .int .i64 g.f2] 23)) (.cells #[.int .i64 s.f0, .int .i64 s.f1, .int .i64 s.f2, .int .i64 s.f3, .slice A s.f4.length c] 28)
    simpa using this
  have hgr : W4.heap[w.heap.size + 2]? = some (.cells #[.int .i64 r.f0, .int .i64 r.f1, .string r.f2] 50 (0, 0)) := by
    rw [hW4, Below.heap_alloc _ _ _ (by simp)]
    have := heap_alloc_new ((w.alloc (.cells #[.int .i64 g.f0, .int .i64 g.f1, .int .i64 g.f2] 23)).alloc (.cells #[.int .i64 s.f0, .int .i64 s.f1, .int .i64 s.f2, .int .i64 s.f3, .slice A s.f4.length c] 28)) (.cells #[.int .i64 r.f0, .int .i64 r.f1, .string r.f2] 50)
    simpa using this
  have hge : W4.heap[w.heap.size + 3]? = some (.cells #[.int .i64 0, .int .i64 0, .int .i64 0, .int .i64 0, .slice none 0 0] 28 (0, 0)) := by
    rw [hW4]
    have := heap_alloc_new (((w.alloc (.cells #[.int .i64 g.f0, .int .i64 g.f1, .int .i64 g.f2] 23)).alloc (.cells #[.int .i64 s.f0, .int .i64 s.f1, .int .i64 s.f2, .int .i64 s.f3, .slice A s.f4.length c] 28)).alloc (.cells #[.int .i64 r.f0, .int .i64 r.f1, .string r.f2] 50)) (.cells #[.int .i64 0, .int .i64 0, .int .i64 0, .int .i64 0, .slice none 0 0] 28)
    simpa using this
  have hb4 : Below w.heap.size w W4 := by
    rw [hW4]
    exact ((((Below.refl _ _).alloc (Nat.le_refl _) _).alloc (by simp) _).alloc (by simp; omega) _).alloc (by simp; omega) _
  have hsz4 : w.heap.size + 4 ≤ W4.heap.size := lt_of_block hge
  have hr4 := Kd.C_below hr hb4
  have hchk := check21_calls g s A c W4 hr4 hc (by omega)
  obtain ⟨b1, hb1⟩ : ∃ b, checkP g s = b := ⟨_, rfl⟩
  obtain ⟨b2, hb2⟩ : ∃ b, [r.f0, r.f1].all inB = b := ⟨_, rfl⟩
  obtain ⟨b3, hb3⟩ : ∃ b, decide (r.f0 > 1048576) = b := ⟨_, rfl⟩
  have hin2 : ∀ (A : Option Addr) (w : World), (Kd.int .i64).C w A 2 [r.f0, r.f1] → Calls Try.prog 45 #[.slice A 2 2] w fun e w' => e = .returned (.bool ([r.f0, r.f1].all inB)) ∧ w' = w := fun A w hr => within_calls A 2 [r.f0, r.f1] w hr (Nat.le_refl _) (by simp)
  rw [hb1] at hchk
  rw [hb2] at hin2
  have HCHK := Lib.hid hchk
  have HIN := Lib.hid hin2
  have HG := Lib.hid hgg
  have HS := Lib.hid hgs
  have HRR := Lib.hid hgr
  have HE := Lib.hid hge
  have HB4 := Lib.hid hb4
  have HW4 := Lib.hid hW4
  have HR4 := Lib.hid hr4
  have HB1 := Lib.hid hb1
  have HB2 := Lib.hid hb2
  have HN := Lib.hid hn
  have d3 : decide (1048576 < r.f0) = b3 := hb3
  clear hchk hin2 hgg hgs hgr hge hb4 hW4 hr4 hr hb1 hb2 hn
  cases b1 with
  | false =>
    have hfp := HFP.out
    rw [feedP, HB1.out, if_neg (by simp)] at hfp
    replace hfp := Lib.hid hfp
    go_enter Try.func29, Try.ntmps29
    go_wp2_with (first | (go_at_call 21; go_loud (rw [← HW4.out]; (with_reducible refine HCHK.out.mono ?_); rintro e w1 ⟨rfl, hb1⟩; have g1 := blk_below HG.out hb1; have s1 := blk_below HS.out hb1; have r1 := blk_below HRR.out hb1; have p0 : w1.cell? ⟨w.heap.size + 2, 0, none⟩ = some (.int .i64 r.f0) := (blk_cell r1 0).trans rfl; have p1 : w1.cell? ⟨w.heap.size + 2, 1, none⟩ = some (.int .i64 r.f1) := (blk_cell r1 1).trans rfl; have HX1 := Lib.hid hb1; clear hb1 g1 s1 r1; have e9 := blk_below HE.out HX1.out; have e0 : (w1).cell? ⟨w.heap.size + 3, 0, none⟩ = some (.int .i64 0) := (blk_cell e9 0).trans rfl; have e1 : (w1).cell? ⟨w.heap.size + 3, 1, none⟩ = some (.int .i64 0) := (blk_cell e9 1).trans rfl; have e2 : (w1).cell? ⟨w.heap.size + 3, 2, none⟩ = some (.int .i64 0) := (blk_cell e9 2).trans rfl; have e3 : (w1).cell? ⟨w.heap.size + 3, 3, none⟩ = some (.int .i64 0) := (blk_cell e9 3).trans rfl; have e4 : (w1).cell? ⟨w.heap.size + 3, 4, none⟩ = some (.slice none 0 0) := (blk_cell e9 4).trans rfl; have ef0 : (w1).frozen? ⟨w.heap.size + 3, 0, none⟩ = false := blk_frozen e9 0; have ef1 : (w1).frozen? ⟨w.heap.size + 3, 1, none⟩ = false := blk_frozen e9 1; have ef2 : (w1).frozen? ⟨w.heap.size + 3, 2, none⟩ = false := blk_frozen e9 2; have ef3 : (w1).frozen? ⟨w.heap.size + 3, 3, none⟩ = false := blk_frozen e9 3; have ef4 : (w1).frozen? ⟨w.heap.size + 3, 4, none⟩ = false := blk_frozen e9 4; have HE9 := Lib.hid e9; have HBB := Lib.hid (HB4.out.trans ((HX1.out).mono HB4.out.size)); clear e9)))
    have hp := hfp.out
    subst hp
    refine bodyPost_ret (results_ctt rfl _ _ (w.heap.size + 1 + 1 + 1) 28 #[.int .i64 0, .int .i64 0, .int .i64 0, .int .i64 0, .slice none 0 0] (0, 0) _ rfl (put5_heap (w := w1) (g := w.heap.size + 1 + 1 + 1) HE9.out (.int .i64 0) (.int .i64 0) (.int .i64 0) (.int .i64 0) (.slice none 0 0)) Try.underlying28 rfl (by kernel_rfl)) rfl ?_
    exact ⟨_, _, rfl, Kd.R_nil _ _ _ _ _, Kd.R_nil _ _ _ _ _, put5_below (g := w.heap.size + 1 + 1 + 1) HBB.out (by omega) _ _ _ _ _⟩
  | true =>
    cases b2 with
    | false =>
      have hfp := HFP.out
      rw [feedP, HB1.out, HB2.out, if_neg (by simp)] at hfp
      replace hfp := Lib.hid hfp
      go_enter Try.func29, Try.ntmps29
      go_wp2_with (first | (go_at_call 21; go_loud (rw [← HW4.out]; (with_reducible refine HCHK.out.mono ?_); rintro e w1 ⟨rfl, hb1⟩; have g1 := blk_below HG.out hb1; have s1 := blk_below HS.out hb1; have r1 := blk_below HRR.out hb1; have p0 : w1.cell? ⟨w.heap.size + 2, 0, none⟩ = some (.int .i64 r.f0) := (blk_cell r1 0).trans rfl; have p1 : w1.cell? ⟨w.heap.size + 2, 1, none⟩ = some (.int .i64 r.f1) := (blk_cell r1 1).trans rfl; have HX1 := Lib.hid hb1; clear hb1 g1 s1 r1)) | (go_at_call 45; go_loud ((with_reducible refine (HIN.out _ _ (ints_C [r.f0, r.f1] (by simp) (heap_alloc_new _ _))).mono ?_); rintro e w2 ⟨rfl, rfl⟩; have hx2 : Below W4.heap.size W4 (w1.alloc (.cells #[.int .i64 r.f0, .int .i64 r.f1] 3)) := HX1.out.alloc HX1.out.size _; have s2 := blk_below HS.out hx2; have r2 := blk_below HRR.out hx2; have q0 : (w1.alloc (.cells #[.int .i64 r.f0, .int .i64 r.f1] 3)).cell? ⟨w.heap.size + 1, 0, none⟩ = some (.int .i64 s.f0) := (blk_cell s2 0).trans rfl; have q1 : (w1.alloc (.cells #[.int .i64 r.f0, .int .i64 r.f1] 3)).cell? ⟨w.heap.size + 1, 1, none⟩ = some (.int .i64 s.f1) := (blk_cell s2 1).trans rfl; have q2 : (w1.alloc (.cells #[.int .i64 r.f0, .int .i64 r.f1] 3)).cell? ⟨w.heap.size + 1, 2, none⟩ = some (.int .i64 s.f2) := (blk_cell s2 2).trans rfl; have q3 : (w1.alloc (.cells #[.int .i64 r.f0, .int .i64 r.f1] 3)).cell? ⟨w.heap.size + 1, 3, none⟩ = some (.int .i64 s.f3) := (blk_cell s2 3).trans rfl; have q4 : (w1.alloc (.cells #[.int .i64 r.f0, .int .i64 r.f1] 3)).cell? ⟨w.heap.size + 1, 4, none⟩ = some (.slice A s.f4.length c) := (blk_cell s2 4).trans rfl; have t0 : (w1.alloc (.cells #[.int .i64 r.f0, .int .i64 r.f1] 3)).cell? ⟨w.heap.size + 2, 0, none⟩ = some (.int .i64 r.f0) := (blk_cell r2 0).trans rfl; have t1 : (w1.alloc (.cells #[.int .i64 r.f0, .int .i64 r.f1] 3)).cell? ⟨w.heap.size + 2, 1, none⟩ = some (.int .i64 r.f1) := (blk_cell r2 1).trans rfl; have t2 : (w1.alloc (.cells #[.int .i64 r.f0, .int .i64 r.f1] 3)).cell? ⟨w.heap.size + 2, 2, none⟩ = some (.string r.f2) := (blk_cell r2 2).trans rfl; have HX2 := Lib.hid hx2; clear hx2 s2 r2; have e9 := blk_below HE.out HX2.out; have e0 : (w1.alloc (.cells #[.int .i64 r.f0, .int .i64 r.f1] 3)).cell? ⟨w.heap.size + 3, 0, none⟩ = some (.int .i64 0) := (blk_cell e9 0).trans rfl; have e1 : (w1.alloc (.cells #[.int .i64 r.f0, .int .i64 r.f1] 3)).cell? ⟨w.heap.size + 3, 1, none⟩ = some (.int .i64 0) := (blk_cell e9 1).trans rfl; have e2 : (w1.alloc (.cells #[.int .i64 r.f0, .int .i64 r.f1] 3)).cell? ⟨w.heap.size + 3, 2, none⟩ = some (.int .i64 0) := (blk_cell e9 2).trans rfl; have e3 : (w1.alloc (.cells #[.int .i64 r.f0, .int .i64 r.f1] 3)).cell? ⟨w.heap.size + 3, 3, none⟩ = some (.int .i64 0) := (blk_cell e9 3).trans rfl; have e4 : (w1.alloc (.cells #[.int .i64 r.f0, .int .i64 r.f1] 3)).cell? ⟨w.heap.size + 3, 4, none⟩ = some (.slice none 0 0) := (blk_cell e9 4).trans rfl; have ef0 : (w1.alloc (.cells #[.int .i64 r.f0, .int .i64 r.f1] 3)).frozen? ⟨w.heap.size + 3, 0, none⟩ = false := blk_frozen e9 0; have ef1 : (w1.alloc (.cells #[.int .i64 r.f0, .int .i64 r.f1] 3)).frozen? ⟨w.heap.size + 3, 1, none⟩ = false := blk_frozen e9 1; have ef2 : (w1.alloc (.cells #[.int .i64 r.f0, .int .i64 r.f1] 3)).frozen? ⟨w.heap.size + 3, 2, none⟩ = false := blk_frozen e9 2; have ef3 : (w1.alloc (.cells #[.int .i64 r.f0, .int .i64 r.f1] 3)).frozen? ⟨w.heap.size + 3, 3, none⟩ = false := blk_frozen e9 3; have ef4 : (w1.alloc (.cells #[.int .i64 r.f0, .int .i64 r.f1] 3)).frozen? ⟨w.heap.size + 3, 4, none⟩ = false := blk_frozen e9 4; have HE9 := Lib.hid e9; have HBB := Lib.hid (HB4.out.trans ((HX2.out).mono HB4.out.size)); clear e9)))
      have hp := hfp.out
      subst hp
      refine bodyPost_ret (results_ctt rfl _ _ (w.heap.size + 1 + 1 + 1) 28 #[.int .i64 0, .int .i64 0, .int .i64 0, .int .i64 0, .slice none 0 0] (0, 0) _ rfl (put5_heap (w := w1.alloc (.cells #[.int .i64 r.f0, .int .i64 r.f1] 3)) (g := w.heap.size + 1 + 1 + 1) HE9.out (.int .i64 0) (.int .i64 0) (.int .i64 0) (.int .i64 0) (.slice none 0 0)) Try.underlying28 rfl (by kernel_rfl)) rfl ?_
      exact ⟨_, _, rfl, Kd.R_nil _ _ _ _ _, Kd.R_nil _ _ _ _ _, put5_below (g := w.heap.size + 1 + 1 + 1) HBB.out (by omega) _ _ _ _ _⟩
    | true =>
      cases b3 with
      | true =>
        have hfp := HFP.out
        rw [feedP, HB1.out, HB2.out, hb3, if_neg (by simp)] at hfp
        replace hfp := Lib.hid hfp
        go_enter Try.func29, Try.ntmps29
        go_wp2_with (first | (go_at_call 21; go_loud (rw [← HW4.out]; (with_reducible refine HCHK.out.mono ?_); rintro e w1 ⟨rfl, hb1⟩; have g1 := blk_below HG.out hb1; have s1 := blk_below HS.out hb1; have r1 := blk_below HRR.out hb1; have p0 : w1.cell? ⟨w.heap.size + 2, 0, none⟩ = some (.int .i64 r.f0) := (blk_cell r1 0).trans rfl; have p1 : w1.cell? ⟨w.heap.size + 2, 1, none⟩ = some (.int .i64 r.f1) := (blk_cell r1 1).trans rfl; have HX1 := Lib.hid hb1; clear hb1 g1 s1 r1)) | (go_at_call 45; go_loud ((with_reducible refine (HIN.out _ _ (ints_C [r.f0, r.f1] (by simp) (heap_alloc_new _ _))).mono ?_); rintro e w2 ⟨rfl, rfl⟩; have hx2 : Below W4.heap.size W4 (w1.alloc (.cells #[.int .i64 r.f0, .int .i64 r.f1] 3)) := HX1.out.alloc HX1.out.size _; have s2 := blk_below HS.out hx2; have r2 := blk_below HRR.out hx2; have q0 : (w1.alloc (.cells #[.int .i64 r.f0, .int .i64 r.f1] 3)).cell? ⟨w.heap.size + 1, 0, none⟩ = some (.int .i64 s.f0) := (blk_cell s2 0).trans rfl; have q1 : (w1.alloc (.cells #[.int .i64 r.f0, .int .i64 r.f1] 3)).cell? ⟨w.heap.size + 1, 1, none⟩ = some (.int .i64 s.f1) := (blk_cell s2 1).trans rfl; have q2 : (w1.alloc (.cells #[.int .i64 r.f0, .int .i64 r.f1] 3)).cell? ⟨w.heap.size + 1, 2, none⟩ = some (.int .i64 s.f2) := (blk_cell s2 2).trans rfl; have q3 : (w1.alloc (.cells #[.int .i64 r.f0, .int .i64 r.f1] 3)).cell? ⟨w.heap.size + 1, 3, none⟩ = some (.int .i64 s.f3) := (blk_cell s2 3).trans rfl; have q4 : (w1.alloc (.cells #[.int .i64 r.f0, .int .i64 r.f1] 3)).cell? ⟨w.heap.size + 1, 4, none⟩ = some (.slice A s.f4.length c) := (blk_cell s2 4).trans rfl; have t0 : (w1.alloc (.cells #[.int .i64 r.f0, .int .i64 r.f1] 3)).cell? ⟨w.heap.size + 2, 0, none⟩ = some (.int .i64 r.f0) := (blk_cell r2 0).trans rfl; have t1 : (w1.alloc (.cells #[.int .i64 r.f0, .int .i64 r.f1] 3)).cell? ⟨w.heap.size + 2, 1, none⟩ = some (.int .i64 r.f1) := (blk_cell r2 1).trans rfl; have t2 : (w1.alloc (.cells #[.int .i64 r.f0, .int .i64 r.f1] 3)).cell? ⟨w.heap.size + 2, 2, none⟩ = some (.string r.f2) := (blk_cell r2 2).trans rfl; have HX2 := Lib.hid hx2; clear hx2 s2 r2; have e9 := blk_below HE.out HX2.out; have e0 : (w1.alloc (.cells #[.int .i64 r.f0, .int .i64 r.f1] 3)).cell? ⟨w.heap.size + 3, 0, none⟩ = some (.int .i64 0) := (blk_cell e9 0).trans rfl; have e1 : (w1.alloc (.cells #[.int .i64 r.f0, .int .i64 r.f1] 3)).cell? ⟨w.heap.size + 3, 1, none⟩ = some (.int .i64 0) := (blk_cell e9 1).trans rfl; have e2 : (w1.alloc (.cells #[.int .i64 r.f0, .int .i64 r.f1] 3)).cell? ⟨w.heap.size + 3, 2, none⟩ = some (.int .i64 0) := (blk_cell e9 2).trans rfl; have e3 : (w1.alloc (.cells #[.int .i64 r.f0, .int .i64 r.f1] 3)).cell? ⟨w.heap.size + 3, 3, none⟩ = some (.int .i64 0) := (blk_cell e9 3).trans rfl; have e4 : (w1.alloc (.cells #[.int .i64 r.f0, .int .i64 r.f1] 3)).cell? ⟨w.heap.size + 3, 4, none⟩ = some (.slice none 0 0) := (blk_cell e9 4).trans rfl; have ef0 : (w1.alloc (.cells #[.int .i64 r.f0, .int .i64 r.f1] 3)).frozen? ⟨w.heap.size + 3, 0, none⟩ = false := blk_frozen e9 0; have ef1 : (w1.alloc (.cells #[.int .i64 r.f0, .int .i64 r.f1] 3)).frozen? ⟨w.heap.size + 3, 1, none⟩ = false := blk_frozen e9 1; have ef2 : (w1.alloc (.cells #[.int .i64 r.f0, .int .i64 r.f1] 3)).frozen? ⟨w.heap.size + 3, 2, none⟩ = false := blk_frozen e9 2; have ef3 : (w1.alloc (.cells #[.int .i64 r.f0, .int .i64 r.f1] 3)).frozen? ⟨w.heap.size + 3, 3, none⟩ = false := blk_frozen e9 3; have ef4 : (w1.alloc (.cells #[.int .i64 r.f0, .int .i64 r.f1] 3)).frozen? ⟨w.heap.size + 3, 4, none⟩ = false := blk_frozen e9 4; have HE9 := Lib.hid e9; have HBB := Lib.hid (HB4.out.trans ((HX2.out).mono HB4.out.size)); clear e9)))
        have hp := hfp.out
        subst hp
        refine bodyPost_ret (results_ctt rfl _ _ (w.heap.size + 1 + 1 + 1) 28 #[.int .i64 0, .int .i64 0, .int .i64 0, .int .i64 0, .slice none 0 0] (0, 0) _ rfl (put5_heap (w := w1.alloc (.cells #[.int .i64 r.f0, .int .i64 r.f1] 3)) (g := w.heap.size + 1 + 1 + 1) HE9.out (.int .i64 0) (.int .i64 0) (.int .i64 0) (.int .i64 0) (.slice none 0 0)) Try.underlying28 rfl (by kernel_rfl)) rfl ?_
        exact ⟨_, _, rfl, Kd.R_nil _ _ _ _ _, Kd.R_nil _ _ _ _ _, put5_below (g := w.heap.size + 1 + 1 + 1) HBB.out (by omega) _ _ _ _ _⟩
      | false =>
        have hFP := HFP.out
        rw [feedP, HB1.out, HB2.out, hb3, if_pos (by rfl)] at hFP
        by_cases hN : s.f3 = 1099511627776
        · have dN : (s.f3 == 1099511627776) = true := beq_iff_eq.2 hN
          rw [if_pos hN] at hFP
          have hfp := Lib.hid hFP
          clear hFP hN
          go_enter Try.func29, Try.ntmps29
          go_wp2_with (first | (go_at_call 21; go_loud (rw [← HW4.out]; (with_reducible refine HCHK.out.mono ?_); rintro e w1 ⟨rfl, hb1⟩; have g1 := blk_below HG.out hb1; have s1 := blk_below HS.out hb1; have r1 := blk_below HRR.out hb1; have p0 : w1.cell? ⟨w.heap.size + 2, 0, none⟩ = some (.int .i64 r.f0) := (blk_cell r1 0).trans rfl; have p1 : w1.cell? ⟨w.heap.size + 2, 1, none⟩ = some (.int .i64 r.f1) := (blk_cell r1 1).trans rfl; have HX1 := Lib.hid hb1; clear hb1 g1 s1 r1)) | (go_at_call 45; go_loud ((with_reducible refine (HIN.out _ _ (ints_C [r.f0, r.f1] (by simp) (heap_alloc_new _ _))).mono ?_); rintro e w2 ⟨rfl, rfl⟩; have hx2 : Below W4.heap.size W4 (w1.alloc (.cells #[.int .i64 r.f0, .int .i64 r.f1] 3)) := HX1.out.alloc HX1.out.size _; have s2 := blk_below HS.out hx2; have r2 := blk_below HRR.out hx2; have q0 : (w1.alloc (.cells #[.int .i64 r.f0, .int .i64 r.f1] 3)).cell? ⟨w.heap.size + 1, 0, none⟩ = some (.int .i64 s.f0) := (blk_cell s2 0).trans rfl; have q1 : (w1.alloc (.cells #[.int .i64 r.f0, .int .i64 r.f1] 3)).cell? ⟨w.heap.size + 1, 1, none⟩ = some (.int .i64 s.f1) := (blk_cell s2 1).trans rfl; have q2 : (w1.alloc (.cells #[.int .i64 r.f0, .int .i64 r.f1] 3)).cell? ⟨w.heap.size + 1, 2, none⟩ = some (.int .i64 s.f2) := (blk_cell s2 2).trans rfl; have q3 : (w1.alloc (.cells #[.int .i64 r.f0, .int .i64 r.f1] 3)).cell? ⟨w.heap.size + 1, 3, none⟩ = some (.int .i64 s.f3) := (blk_cell s2 3).trans rfl; have q4 : (w1.alloc (.cells #[.int .i64 r.f0, .int .i64 r.f1] 3)).cell? ⟨w.heap.size + 1, 4, none⟩ = some (.slice A s.f4.length c) := (blk_cell s2 4).trans rfl; have t0 : (w1.alloc (.cells #[.int .i64 r.f0, .int .i64 r.f1] 3)).cell? ⟨w.heap.size + 2, 0, none⟩ = some (.int .i64 r.f0) := (blk_cell r2 0).trans rfl; have t1 : (w1.alloc (.cells #[.int .i64 r.f0, .int .i64 r.f1] 3)).cell? ⟨w.heap.size + 2, 1, none⟩ = some (.int .i64 r.f1) := (blk_cell r2 1).trans rfl; have t2 : (w1.alloc (.cells #[.int .i64 r.f0, .int .i64 r.f1] 3)).cell? ⟨w.heap.size + 2, 2, none⟩ = some (.string r.f2) := (blk_cell r2 2).trans rfl; have HX2 := Lib.hid hx2; clear hx2 s2 r2; have e9 := blk_below HE.out HX2.out; have e0 : (w1.alloc (.cells #[.int .i64 r.f0, .int .i64 r.f1] 3)).cell? ⟨w.heap.size + 3, 0, none⟩ = some (.int .i64 0) := (blk_cell e9 0).trans rfl; have e1 : (w1.alloc (.cells #[.int .i64 r.f0, .int .i64 r.f1] 3)).cell? ⟨w.heap.size + 3, 1, none⟩ = some (.int .i64 0) := (blk_cell e9 1).trans rfl; have e2 : (w1.alloc (.cells #[.int .i64 r.f0, .int .i64 r.f1] 3)).cell? ⟨w.heap.size + 3, 2, none⟩ = some (.int .i64 0) := (blk_cell e9 2).trans rfl; have e3 : (w1.alloc (.cells #[.int .i64 r.f0, .int .i64 r.f1] 3)).cell? ⟨w.heap.size + 3, 3, none⟩ = some (.int .i64 0) := (blk_cell e9 3).trans rfl; have e4 : (w1.alloc (.cells #[.int .i64 r.f0, .int .i64 r.f1] 3)).cell? ⟨w.heap.size + 3, 4, none⟩ = some (.slice none 0 0) := (blk_cell e9 4).trans rfl; have ef0 : (w1.alloc (.cells #[.int .i64 r.f0, .int .i64 r.f1] 3)).frozen? ⟨w.heap.size + 3, 0, none⟩ = false := blk_frozen e9 0; have ef1 : (w1.alloc (.cells #[.int .i64 r.f0, .int .i64 r.f1] 3)).frozen? ⟨w.heap.size + 3, 1, none⟩ = false := blk_frozen e9 1; have ef2 : (w1.alloc (.cells #[.int .i64 r.f0, .int .i64 r.f1] 3)).frozen? ⟨w.heap.size + 3, 2, none⟩ = false := blk_frozen e9 2; have ef3 : (w1.alloc (.cells #[.int .i64 r.f0, .int .i64 r.f1] 3)).frozen? ⟨w.heap.size + 3, 3, none⟩ = false := blk_frozen e9 3; have ef4 : (w1.alloc (.cells #[.int .i64 r.f0, .int .i64 r.f1] 3)).frozen? ⟨w.heap.size + 3, 4, none⟩ = false := blk_frozen e9 4; have HE9 := Lib.hid e9; have HBB := Lib.hid (HB4.out.trans ((HX2.out).mono HB4.out.size)); clear e9)))
          have hp := hfp.out
          subst hp
          refine bodyPost_ret (results_ctt rfl _ _ (w.heap.size + 1 + 1 + 1) 28 #[.int .i64 0, .int .i64 0, .int .i64 0, .int .i64 0, .slice none 0 0] (0, 0) _ rfl (put5_heap (w := w1.alloc (.cells #[.int .i64 r.f0, .int .i64 r.f1] 3)) (g := w.heap.size + 1 + 1 + 1) HE9.out (.int .i64 0) (.int .i64 0) (.int .i64 0) (.int .i64 0) (.slice none 0 0)) Try.underlying28 rfl (by kernel_rfl)) rfl ?_
          exact ⟨_, _, rfl, Kd.R_nil _ _ _ _ _, Kd.R_nil _ _ _ _ _, put5_below (g := w.heap.size + 1 + 1 + 1) HBB.out (by omega) _ _ _ _ _⟩
        have dN : (s.f3 == 1099511627776) = false := beq_eq_false_iff_ne.2 hN
        rw [if_neg hN] at hFP
        replace HFP := Lib.hid hFP
        clear hFP hN
        go_enter Try.func29, Try.ntmps29
        go_upto_region 8 with (first | (go_at_call 21; go_loud (rw [← HW4.out]; (with_reducible refine HCHK.out.mono ?_); rintro e w1 ⟨rfl, hb1⟩; have g1 := blk_below HG.out hb1; have s1 := blk_below HS.out hb1; have r1 := blk_below HRR.out hb1; have p0 : w1.cell? ⟨w.heap.size + 2, 0, none⟩ = some (.int .i64 r.f0) := (blk_cell r1 0).trans rfl; have p1 : w1.cell? ⟨w.heap.size + 2, 1, none⟩ = some (.int .i64 r.f1) := (blk_cell r1 1).trans rfl; have HX1 := Lib.hid hb1; clear hb1 g1 s1 r1)) | (go_at_call 45; go_loud ((with_reducible refine (HIN.out _ _ (ints_C [r.f0, r.f1] (by simp) (heap_alloc_new _ _))).mono ?_); rintro e w2 ⟨rfl, rfl⟩; have hx2 : Below W4.heap.size W4 (w1.alloc (.cells #[.int .i64 r.f0, .int .i64 r.f1] 3)) := HX1.out.alloc HX1.out.size _; have s2 := blk_below HS.out hx2; have r2 := blk_below HRR.out hx2; have q0 : (w1.alloc (.cells #[.int .i64 r.f0, .int .i64 r.f1] 3)).cell? ⟨w.heap.size + 1, 0, none⟩ = some (.int .i64 s.f0) := (blk_cell s2 0).trans rfl; have q1 : (w1.alloc (.cells #[.int .i64 r.f0, .int .i64 r.f1] 3)).cell? ⟨w.heap.size + 1, 1, none⟩ = some (.int .i64 s.f1) := (blk_cell s2 1).trans rfl; have q2 : (w1.alloc (.cells #[.int .i64 r.f0, .int .i64 r.f1] 3)).cell? ⟨w.heap.size + 1, 2, none⟩ = some (.int .i64 s.f2) := (blk_cell s2 2).trans rfl; have q3 : (w1.alloc (.cells #[.int .i64 r.f0, .int .i64 r.f1] 3)).cell? ⟨w.heap.size + 1, 3, none⟩ = some (.int .i64 s.f3) := (blk_cell s2 3).trans rfl; have q4 : (w1.alloc (.cells #[.int .i64 r.f0, .int .i64 r.f1] 3)).cell? ⟨w.heap.size + 1, 4, none⟩ = some (.slice A s.f4.length c) := (blk_cell s2 4).trans rfl; have t0 : (w1.alloc (.cells #[.int .i64 r.f0, .int .i64 r.f1] 3)).cell? ⟨w.heap.size + 2, 0, none⟩ = some (.int .i64 r.f0) := (blk_cell r2 0).trans rfl; have t1 : (w1.alloc (.cells #[.int .i64 r.f0, .int .i64 r.f1] 3)).cell? ⟨w.heap.size + 2, 1, none⟩ = some (.int .i64 r.f1) := (blk_cell r2 1).trans rfl; have t2 : (w1.alloc (.cells #[.int .i64 r.f0, .int .i64 r.f1] 3)).cell? ⟨w.heap.size + 2, 2, none⟩ = some (.string r.f2) := (blk_cell r2 2).trans rfl; have HX2 := Lib.hid hx2; clear hx2 s2 r2)) | (go_at_call 42; go_loud ((with_reducible refine (clone_calls A c s.f4 _ (Kd.C_below HR4.out HX2.out) hc (by omega) HN.out).mono ?_); rintro e w3 ⟨v5, rfl, hR3, hb3⟩; obtain ⟨A5, c5, rfl, hc5, _⟩ := Kd.R_reads hR3; have hx3 : Below W4.heap.size W4 w3 := HX2.out.trans (hb3.mono HX2.out.size); have s3 := blk_below HS.out hx3; have r3 := blk_below HRR.out hx3; have u0 : w3.cell? ⟨w.heap.size + 1, 0, none⟩ = some (.int .i64 s.f0) := (blk_cell s3 0).trans rfl; have u1 : w3.cell? ⟨w.heap.size + 1, 1, none⟩ = some (.int .i64 s.f1) := (blk_cell s3 1).trans rfl; have u2 : w3.cell? ⟨w.heap.size + 1, 2, none⟩ = some (.int .i64 s.f2) := (blk_cell s3 2).trans rfl; have u3 : w3.cell? ⟨w.heap.size + 1, 3, none⟩ = some (.int .i64 s.f3) := (blk_cell s3 3).trans rfl; have u4 : w3.cell? ⟨w.heap.size + 1, 4, none⟩ = some (.slice A s.f4.length c) := (blk_cell s3 4).trans rfl; have v0 : w3.cell? ⟨w.heap.size + 2, 0, none⟩ = some (.int .i64 r.f0) := (blk_cell r3 0).trans rfl; have v1 : w3.cell? ⟨w.heap.size + 2, 1, none⟩ = some (.int .i64 r.f1) := (blk_cell r3 1).trans rfl; have v2 : w3.cell? ⟨w.heap.size + 2, 2, none⟩ = some (.string r.f2) := (blk_cell r3 2).trans rfl; have f3 : w3.frozen? ⟨w.heap.size + 1, 3, none⟩ = false := blk_frozen s3 3; have f4 : w3.frozen? ⟨w.heap.size + 1, 4, none⟩ = false := blk_frozen s3 4; have HX3 := Lib.hid hx3; have HR3 := Lib.hid hR3; have HSZ2 := Lib.hid HX2.out.size; clear hx3 s3 r3 hb3 hR3)) | (go_at_call 53; go_loud ((with_reducible refine (value_calls r.f0 r.f1 r.f2 _ hs).mono ?_); rintro e w5 ⟨rfl, hb5⟩; have HB5 := Lib.hid hb5; clear hb5)))
        have F3 : FeedW w (w3.setCell ⟨w.heap.size + 1, 4, none⟩ (.slice A5 s.f4.length c5)) g r s.f0 s.f1 s.f2 s.f3 (.slice A5 s.f4.length c5) s.f4 :=
          ⟨(heap_setCell_other _ _ _ _ (show w.heap.size ≠ w.heap.size + 1 by omega)).trans (blk_below HG.out HX3.out), blk_put (blk_below HS.out HX3.out) 4 _ rfl, (heap_setCell_other _ _ _ _ (show w.heap.size + 2 ≠ w.heap.size + 1 by omega)).trans (blk_below HRR.out HX3.out),
           (heap_setCell_other _ _ _ _ (show w.heap.size + 3 ≠ w.heap.size + 1 by omega)).trans (blk_below HE.out HX3.out), (HB4.out.trans (HX3.out.mono HB4.out.size)).setCell (show w.heap.size ≤ w.heap.size + 1 by omega) _,
           R_other (R_base HR3.out (by have := HSZ2.out; omega) (by have := HSZ2.out; omega)) (fun k hk => heap_setCell_other _ _ _ _ (show k ≠ w.heap.size + 1 by omega))⟩
        have F4 : FeedW w _ g r s.f0 s.f1 s.f2 (wrap64 (s.f3 + 1)) (.slice A5 s.f4.length c5) s.f4 := F3.put 3 (u := .int .i64 (wrap64 (s.f3 + 1))) rfl
        have F5 := F4.below HB5.out
        have hcg : chkG g = true := checkP_grid HB1.out
        have hkt : 0 ≤ r.f1 ∧ r.f1 ≤ 1099511627776 := by
          have := HB2.out
          simp [inB] at this
          omega
        have HFS := Lib.hid F5.size
        have HF5 := Lib.hid F5
        have hfp := HFP.out
        clear F3 F4 F5 HFP HX2 HX3 HR3 HSZ2 HB5 HB4 HE HRR HS HG HIN HCHK HW4 HB1 HB2 HN HR4 HX1
        revert hfp
        generalize wrap64 (s.f3 + 1) = n2 at HF5
        generalize valP r.f2 = vo
        obtain ⟨v, okv⟩ := vo
        intro hfp
        cases okv with
        | false =>
          rw [if_neg (by simp)] at hfp
          have F5 := HF5.out
          have u0 : w5.cell? ⟨w.heap.size + 1, 0, none⟩ = some (.int .i64 s.f0) := (blk_cell F5.gs 0).trans rfl
          have u1 : w5.cell? ⟨w.heap.size + 1, 1, none⟩ = some (.int .i64 s.f1) := (blk_cell F5.gs 1).trans rfl
          have u2 : w5.cell? ⟨w.heap.size + 1, 2, none⟩ = some (.int .i64 s.f2) := (blk_cell F5.gs 2).trans rfl
          have u3 : w5.cell? ⟨w.heap.size + 1, 3, none⟩ = some (.int .i64 n2) := (blk_cell F5.gs 3).trans rfl
          have u4 : w5.cell? ⟨w.heap.size + 1, 4, none⟩ = some (.slice A5 s.f4.length c5) := (blk_cell F5.gs 4).trans rfl
          have f2 : w5.frozen? ⟨w.heap.size + 1, 2, none⟩ = false := blk_frozen F5.gs 2
          have e0 : w5.cell? ⟨w.heap.size + 3, 0, none⟩ = some (.int .i64 0) := (blk_cell F5.ge 0).trans rfl
          have e1 : w5.cell? ⟨w.heap.size + 3, 1, none⟩ = some (.int .i64 0) := (blk_cell F5.ge 1).trans rfl
          have e2 : w5.cell? ⟨w.heap.size + 3, 2, none⟩ = some (.int .i64 0) := (blk_cell F5.ge 2).trans rfl
          have e3 : w5.cell? ⟨w.heap.size + 3, 3, none⟩ = some (.int .i64 0) := (blk_cell F5.ge 3).trans rfl
          have e4 : w5.cell? ⟨w.heap.size + 3, 4, none⟩ = some (.slice none 0 0) := (blk_cell F5.ge 4).trans rfl
          have ef0 : w5.frozen? ⟨w.heap.size + 3, 0, none⟩ = false := blk_frozen F5.ge 0
          have ef1 : w5.frozen? ⟨w.heap.size + 3, 1, none⟩ = false := blk_frozen F5.ge 1
          have ef2 : w5.frozen? ⟨w.heap.size + 3, 2, none⟩ = false := blk_frozen F5.ge 2
          have ef3 : w5.frozen? ⟨w.heap.size + 3, 3, none⟩ = false := blk_frozen F5.ge 3
          have ef4 : w5.frozen? ⟨w.heap.size + 3, 4, none⟩ = false := blk_frozen F5.ge 4
          replace hfp := Lib.hid hfp
          have F6 : FeedW w _ g r s.f0 s.f1 (wrap64 (s.f2 + 1)) n2 (.slice A5 s.f4.length c5) s.f4 := F5.put 2 (u := .int .i64 (wrap64 (s.f2 + 1))) rfl
          have hge6 := put5_heap F6.ge (.int .i64 s.f0) (.int .i64 s.f1) (.int .i64 (wrap64 (s.f2 + 1))) (.int .i64 n2) (.slice A5 s.f4.length c5)
          have HGE := Lib.hid hge6
          have HF6 := Lib.hid F6
          clear F5 F6 hge6
          go_wp2
          have hp := hfp.out
          subst hp
          refine bodyPost_ret (results_ctt rfl _ _ (w.heap.size + 3) 28 #[.int .i64 s.f0, .int .i64 s.f1, .int .i64 (wrap64 (s.f2 + 1)), .int .i64 n2, .slice A5 s.f4.length c5] (0, 0) _ rfl HGE.out Try.underlying28 rfl (by kernel_rfl)) rfl ?_
          refine ⟨_, _, rfl, ?_, Kd.R_nil _ _ _ _ _, put5_below HF6.out.bl (by omega) _ _ _ _ _⟩
          exact R_ok (R_other HF6.out.row (fun k hk => put5_other (by omega) _ _ _ _ _)) (fun _ _ => trivial)
        | true =>
          rw [if_pos (by simp)] at hfp
          obtain ⟨st, hst⟩ : ∃ st, keepI g s.f0 (startsP g r.f1) = st := ⟨_, rfl⟩
          have hsl := startsP_length g r.f1 hcg
          have hstl : st.length ≤ 8 := by
            rw [← hst]
            exact Nat.le_trans (List.length_filter_le _ _) hsl
          rw [hst] at hfp
          obtain ⟨l1, hl1⟩ : ∃ l1, takeN r.f0 v st s.f4 = l1 := ⟨_, rfl⟩
          rw [hl1] at hfp
          obtain ⟨D, hD⟩ : ∃ D, (decide (st.length = 0) || !decide (l1.length ≤ 64)) = D := ⟨_, rfl⟩
          rw [hD] at hfp
          obtain ⟨l2, hl2⟩ : ∃ l2, (if D = true then s.f4 else l1) = l2 := ⟨_, rfl⟩
          obtain ⟨la, hla⟩ : ∃ la, (if D = true then wrap64 (s.f1 + 1) else s.f1) = la := ⟨_, rfl⟩
          obtain ⟨M, hM⟩ : ∃ M, mx s.f0 r.f1 = M := ⟨_, rfl⟩
          rw [hl2, hla, hM] at hfp
          have hl2l : l2.length ≤ 1000 := by
            rw [← hl2]
            split
            · exact hl
            · rename_i hx
              rw [← hD] at hx
              simp at hx
              omega
          have HST := Lib.hid hst
          have HL1 := Lib.hid hl1
          have HD := Lib.hid hD
          have HL2 := Lib.hid hl2
          have HLA := Lib.hid hla
          have HM := Lib.hid hM
          have HL2L := Lib.hid hl2l
          replace hfp := Lib.hid hfp
          have F5 := HF5.out
          have u0 : w5.cell? ⟨w.heap.size, 0, none⟩ = some (.int .i64 g.f0) := (blk_cell F5.gg 0).trans rfl
          have u1 : w5.cell? ⟨w.heap.size, 1, none⟩ = some (.int .i64 g.f1) := (blk_cell F5.gg 1).trans rfl
          have u2 : w5.cell? ⟨w.heap.size, 2, none⟩ = some (.int .i64 g.f2) := (blk_cell F5.gg 2).trans rfl
          have u3 : w5.cell? ⟨w.heap.size + 2, 1, none⟩ = some (.int .i64 r.f1) := (blk_cell F5.gr 1).trans rfl
          clear hst hl1 hD hl2 hla hM hl2l F5
          have hle : decide (l1.length ≤ 64) = true ∨ decide (l1.length ≤ 64) = false := by cases decide (l1.length ≤ 64) <;> simp
          by_cases hz : st.length = 0
          · have z1 : ((st.length : Int) == 0) = true := beq_iff_eq.2 (by omega)
            have hDt : D = true := by rw [← HD.out, decide_eq_true hz]; rfl
            subst hDt
            have hl2 := HL2.out
            have hla := HLA.out
            rw [if_pos rfl] at hl2 hla
            have HL2E := Lib.hid hl2
            have HLAE := Lib.hid hla
            clear hz hle hl2 hla
            go_upto_region 15 with (first | (go_at_call 54; go_loud ((with_reducible refine (starts_calls g r.f1 hcg hkt.1 hkt.2 _).mono ?_); rintro e w6 ⟨vs, rfl, hR6, hb6⟩; obtain ⟨A6, c6, rfl, hc6, _⟩ := Kd.R_reads hR6; have HF6 := Lib.hid (HF5.out.below hb6); have HR6 := Lib.hid hR6; have HB6 := Lib.hid hb6; clear hb6 hR6)) | (go_at_call 55; go_loud ((with_reducible refine (delete1_calls g s.f0 w.heap.size (w.heap.size + 1) w5.heap.size w6 w6 (fun _ => True) A6 c6 (startsP g r.f1) ⟨HF6.out.gg, _, HF6.out.gs, rfl⟩ ?hA ?hB HR6.out (Below.refl _ _) HB6.out.size (by omega)).mono ?_); (case hA => have := HFS.out; omega); (case hB => have := HFS.out; omega); rintro e w7 ⟨vt, rfl, hR7, hb7⟩; rw [HST.out] at hR7; obtain ⟨A7, c7, rfl, hc7, _⟩ := Kd.R_reads hR7; have HF7 := Lib.hid (HF5.out.below (HB6.out.trans hb7)); have HR7 := Lib.hid hR7; have y0 : w7.cell? ⟨w.heap.size + 1, 0, none⟩ = some (.int .i64 s.f0) := (blk_cell HF7.out.gs 0).trans rfl; have y1 : w7.cell? ⟨w.heap.size + 1, 1, none⟩ = some (.int .i64 s.f1) := (blk_cell HF7.out.gs 1).trans rfl; have y2 : w7.cell? ⟨w.heap.size + 1, 2, none⟩ = some (.int .i64 s.f2) := (blk_cell HF7.out.gs 2).trans rfl; have y3 : w7.cell? ⟨w.heap.size + 1, 3, none⟩ = some (.int .i64 n2) := (blk_cell HF7.out.gs 3).trans rfl; have y4 : w7.cell? ⟨w.heap.size + 1, 4, none⟩ = some (.slice A5 s.f4.length c5) := (blk_cell HF7.out.gs 4).trans rfl; have y7 : w7.cell? ⟨w.heap.size + 2, 0, none⟩ = some (.int .i64 r.f0) := (blk_cell HF7.out.gr 0).trans rfl; have y6 : w7.cell? ⟨w.heap.size + 2, 1, none⟩ = some (.int .i64 r.f1) := (blk_cell HF7.out.gr 1).trans rfl; have yf : w7.frozen? ⟨w.heap.size + 1, 1, none⟩ = false := blk_frozen HF7.out.gs 1; clear hR7 hb7 HF6 HR6 HB6)))
            have F8 : FeedW w _ g r s.f0 (wrap64 (s.f1 + 1)) s.f2 n2 (.slice A5 s.f4.length c5) s.f4 := HF7.out.put 1 (u := .int .i64 (wrap64 (s.f1 + 1))) rfl
            rw [HL2E.out, HLAE.out] at F8
            obtain ⟨wc, hwc⟩ : ∃ wc, wc = w7.setCell ⟨w.heap.size + 1, 1, none⟩ (.int .i64 la) := ⟨_, rfl⟩
            rw [← hwc] at F8
            rw [HLAE.out, ← hwc]
            have HF8 := Lib.hid F8
            clear hwc F8 HF7 HR7 HL2E HLAE
            obtain ⟨KO, hKO⟩ : ∃ K, l2.filter (fun c => !closedP g c.f1 M) = K := ⟨_, rfl⟩
            obtain ⟨KL, hKL⟩ : ∃ K, l2.filter (fun c => closedP g c.f1 M) = K := ⟨_, rfl⟩
            have hfp2 := hfp.out
            rw [hKO, hKL] at hfp2
            replace hfp := Lib.hid hfp2
            have HKO := Lib.hid hKO
            have HKL := Lib.hid hKL
            clear hfp2 hKO hKL
            have em : (if s.f0 < r.f1 then r.f1 else s.f0) = M := HM.out
            have F9 := HF8.out
            have z0 : wc.cell? ⟨w.heap.size + 1, 0, none⟩ = some (.int .i64 s.f0) := (blk_cell F9.gs 0).trans rfl
            have z4 : wc.cell? ⟨w.heap.size + 1, 4, none⟩ = some (.slice A5 l2.length c5) := (blk_cell F9.gs 4).trans rfl
            have zr : wc.cell? ⟨w.heap.size + 2, 1, none⟩ = some (.int .i64 r.f1) := (blk_cell F9.gr 1).trans rfl
            have zf : wc.frozen? ⟨w.heap.size + 1, 0, none⟩ = false := blk_frozen F9.gs 0
            have F10 : FeedW w _ g r M la s.f2 n2 (.slice A5 l2.length c5) l2 := F9.put 0 (u := .int .i64 M) rfl
            obtain ⟨WD, hWD⟩ : ∃ W, W = (wc.setCell ⟨w.heap.size + 1, 0, none⟩ (.int .i64 M)).alloc (.cells #[.slice none 0 0] 26) := ⟨_, rfl⟩
            have hbD : Below (wc.setCell ⟨w.heap.size + 1, 0, none⟩ (.int .i64 M)).heap.size (wc.setCell ⟨w.heap.size + 1, 0, none⟩ (.int .i64 M)) WD := by rw [hWD]; exact (Below.refl _ _).alloc (Nat.le_refl _) _
            have F11 := F10.below hbD
            have hcs : (wc.setCell ⟨w.heap.size + 1, 0, none⟩ (.int .i64 M)).heap.size = wc.heap.size := by simp
            have hgoD : WD.heap[wc.heap.size]? = some (.cells #[.slice none 0 0] 26 (0, 0)) := by rw [hWD, ← hcs]; exact heap_alloc_new _ _
            have hsz9 := F9.size
            have hOver : Over WD wc.heap.size wc.heap.size [] := ⟨Nat.le_refl _, _, hgoD, Kd.R_nil _ _ _ _ _⟩
            have hrb : ∀ k, (Value.slice A5 l2.length c5).ownBlock = some k → k < wc.heap.size ∧ k ≠ w.heap.size ∧ k ≠ w.heap.size + 1 := fun k hk => by
              obtain ⟨o, ho⟩ := blk_own F9.row hk
              have h1 := lt_of_block ho
              have h2 := F9.row.1 k hk
              simp only at h2
              exact ⟨h1, by omega, by omega⟩
            have hdel := delete2_calls g M w.heap.size (w.heap.size + 1) wc.heap.size wc.heap.size w.heap.size w WD (fun k => w.heap.size + 4 ≤ k) A5 c5 l2 [] ⟨F11.gg, _, F11.gs, rfl⟩ (by omega) (by omega) hOver (by simp) (by omega) F11.row hrb F11.bl HL2L.out
            rw [hWD] at hdel
            have z4D : WD.cell? ⟨w.heap.size + 1, 4, none⟩ = some (.slice A5 l2.length c5) := (blk_cell F11.gs 4).trans rfl
            rw [hWD] at z4D
            have HDEL := Lib.hid hdel
            have HF11 := Lib.hid F11
            have HRB := Lib.hid hrb
            have HWD := Lib.hid hWD
            have HSZ9 := Lib.hid hsz9
            clear F9 F10 F11 hbD hcs hgoD hOver hrb hdel hWD hsz9
            go_upto_region 18 with (first | (go_at_call 58; go_loud ((with_reducible refine HDEL.out.mono ?_); rintro e w9 ⟨v9, rfl, hR9, hV9, hb9, hfr9⟩; rw [← HWD.out] at hfr9; rw [HKO.out] at hR9; rw [HKL.out, List.nil_append] at hV9; obtain ⟨A10, c10, rfl, hc10, _⟩ := Kd.R_reads hR9; obtain ⟨hVl, vo, hvo, hRo⟩ := hV9; obtain ⟨Ao, co, rfl, hco, _⟩ := Kd.R_reads hRo; have hgs9 := (hfr9 (w.heap.size + 1) (by have := HSZ9.out; omega) (fun e => (HRB.out _ e).2.2 rfl)).trans HF11.out.gs; have hge9 := (hfr9 (w.heap.size + 3) (by have := HSZ9.out; omega) (fun e => by have := HF11.out.row.1 _ e; simp only at this; omega)).trans HF11.out.ge; have fz : w9.frozen? ⟨w.heap.size + 1, 4, none⟩ = false := blk_frozen hgs9 4; have fy : w9.cell? ⟨w.heap.size + 1, 4, none⟩ = some (.slice A5 l2.length c5) := (blk_cell hgs9 4).trans rfl; have HGS9 := Lib.hid hgs9; have HGE9 := Lib.hid hge9; have HR9 := Lib.hid hR9; have HRO := Lib.hid hRo; have HB9 := Lib.hid hb9; have HVO := Lib.hid hvo; clear hgs9 hge9 hR9 hRo hb9 hvo hVl hfr9)))
            obtain ⟨WX, hWX⟩ : ∃ W, W = w9.setCell ⟨w.heap.size + 1, 4, none⟩ (.slice A10 KO.length c10) := ⟨_, rfl⟩
            have hgsX : WX.heap[w.heap.size + 1]? = some (.cells #[.int .i64 M, .int .i64 la, .int .i64 s.f2, .int .i64 n2, .slice A10 KO.length c10] 28 (0, 0)) := by rw [hWX]; exact blk_put HGS9.out 4 _ rfl
            have hgeX : WX.heap[w.heap.size + 3]? = some (.cells #[.int .i64 0, .int .i64 0, .int .i64 0, .int .i64 0, .slice none 0 0] 28 (0, 0)) := by rw [hWX]; exact (heap_setCell_other _ _ _ _ (show w.heap.size + 3 ≠ w.heap.size + 1 by omega)).trans HGE9.out
            have hgoX : WX.heap[wc.heap.size]? = some (.cells #[.slice Ao KL.length co] 26 (0, 0)) := by rw [hWX]; exact (heap_setCell_other _ _ _ _ (show wc.heap.size ≠ w.heap.size + 1 by have := HSZ9.out; omega)).trans HVO.out
            have hbX : Below w.heap.size w WX := by rw [hWX]; exact HB9.out.setCell (show w.heap.size ≤ w.heap.size + 1 by omega) _
            have hRX : Kd.R k46 46 WX w.heap.size (fun k => w.heap.size + 4 ≤ k) (.slice A10 KO.length c10) KO := by rw [hWX]; exact R_other HR9.out (fun k hk => heap_setCell_other _ _ _ _ (show k ≠ w.heap.size + 1 by omega))
            have hROX : Kd.R k46 46 WX w.heap.size (fun k => w.heap.size + 4 ≤ k) (.slice Ao KL.length co) KL := by
              rw [hWX]
              exact R_other (R_base HRO.out (by have := HSZ9.out; omega) (by have := HSZ9.out; omega)) (fun k hk => heap_setCell_other _ _ _ _ (show k ≠ w.heap.size + 1 by omega))
            rw [← hWX]
            have hge3 : wc.heap.size ≠ w.heap.size + 1 + 1 + 1 := by have := HSZ9.out; omega
            have HGSX := Lib.hid hgsX
            have HGEX := Lib.hid hgeX
            have HGOX := Lib.hid hgoX
            have HBX := Lib.hid hbX
            have HRX := Lib.hid hRX
            have HROX := Lib.hid hROX
            have e0 : WX.cell? ⟨w.heap.size + 3, 0, none⟩ = some (.int .i64 0) := (blk_cell hgeX 0).trans rfl
            have e1 : WX.cell? ⟨w.heap.size + 3, 1, none⟩ = some (.int .i64 0) := (blk_cell hgeX 1).trans rfl
            have e2 : WX.cell? ⟨w.heap.size + 3, 2, none⟩ = some (.int .i64 0) := (blk_cell hgeX 2).trans rfl
            have e3 : WX.cell? ⟨w.heap.size + 3, 3, none⟩ = some (.int .i64 0) := (blk_cell hgeX 3).trans rfl
            have e4 : WX.cell? ⟨w.heap.size + 3, 4, none⟩ = some (.slice none 0 0) := (blk_cell hgeX 4).trans rfl
            have ef0 : WX.frozen? ⟨w.heap.size + 3, 0, none⟩ = false := blk_frozen hgeX 0
            have ef1 : WX.frozen? ⟨w.heap.size + 3, 1, none⟩ = false := blk_frozen hgeX 1
            have ef2 : WX.frozen? ⟨w.heap.size + 3, 2, none⟩ = false := blk_frozen hgeX 2
            have ef3 : WX.frozen? ⟨w.heap.size + 3, 3, none⟩ = false := blk_frozen hgeX 3
            have ef4 : WX.frozen? ⟨w.heap.size + 3, 4, none⟩ = false := blk_frozen hgeX 4
            clear hgsX hgeX hgoX hbX hRX hROX hWX HF8 HL2L HM em
            refine wp_region_held_drew (S := fun w_ => ∀ k, k ≠ w.heap.size + 1 + 1 + 1 → w_.heap[k]? = WX.heap[k]?) (by kernel_rfl) (fun _ _ => rfl) (fun hS => ?_)
            change wpAnyH _ _ _ _ _ 5 #[false, false, false, false, false] _ _
            refine takeE 0 (some 93) #[true, false, false, false, false] hS ?_ (hy := fun w_ hS_ => by have q_ := (hS_ (w.heap.size + 1) (by omega)).trans HGSX.out; have q0_ : w_.cell? ⟨w.heap.size + 1, 0, none⟩ = some (.int .i64 M) := (blk_cell q_ 0).trans rfl; have q1_ : w_.cell? ⟨w.heap.size + 1, 1, none⟩ = some (.int .i64 la) := (blk_cell q_ 1).trans rfl; have q2_ : w_.cell? ⟨w.heap.size + 1, 2, none⟩ = some (.int .i64 s.f2) := (blk_cell q_ 2).trans rfl; have q3_ : w_.cell? ⟨w.heap.size + 1, 3, none⟩ = some (.int .i64 n2) := (blk_cell q_ 3).trans rfl; have q4_ : w_.cell? ⟨w.heap.size + 1, 4, none⟩ = some (.slice A10 KO.length c10) := (blk_cell q_ 4).trans rfl; go_simp <;> with_reducible rfl)
            refine takeE 1 (some 94) #[true, true, false, false, false] hS ?_ (hy := fun w_ hS_ => by have q_ := (hS_ wc.heap.size hge3).trans HGOX.out; have q0_ : w_.cell? ⟨wc.heap.size, 0, none⟩ = some (.slice Ao KL.length co) := (blk_cell q_ 0).trans rfl; go_simp <;> with_reducible rfl)
            refine doD (i := 2) (ls2 := #[true, true, true, false, false]) (by kernel_rfl) rfl (by kernel_rfl) (by kernel_rfl) (fun K hK => ?_)
            go_simp
            refine hK.out _ _ ?_ (fun hS_ => ?_)
            · show ∀ k, k ≠ w.heap.size + 1 + 1 + 1 → _
              exact fun k hk => put5_drew hk _ _ _ _ _
            clear hK K hS
            have hS := hS_
            clear hS_
            refine takeE 3 (some 7) #[true, true, true, true, false] hS ?_
            refine takeE 4 (some 8) #[true, true, true, true, true] hS ?_
            refine wpAnyH_done (by kernel_rfl) ?_ _
            try go_simp
            go_wp2
            have hp := hfp.out
            subst hp
            refine bodyPost_ret (results_ctt rfl _ _ (w.heap.size + 1 + 1 + 1) 28 #[.int .i64 M, .int .i64 la, .int .i64 s.f2, .int .i64 n2, .slice A10 KO.length c10] (0, 0) _ rfl (blk_drew (put5_heap (w := WX) (g := w.heap.size + 1 + 1 + 1) HGEX.out (.int .i64 M) (.int .i64 la) (.int .i64 s.f2) (.int .i64 n2) (.slice A10 KO.length c10))) Try.underlying28 rfl (by kernel_rfl)) rfl ?_
            refine ⟨_, _, rfl, ?_, ?_, below_drew (put5_below (g := w.heap.size + 1 + 1 + 1) HBX.out (by omega) _ _ _ _ _)⟩
            · exact R_ok (R_other (w := WX) HRX.out (fun k hk => put5_drew (g := w.heap.size + 1 + 1 + 1) (by omega) _ _ _ _ _)) (fun _ _ => trivial)
            · exact R_ok (R_other (w := WX) HROX.out (fun k hk => put5_drew (g := w.heap.size + 1 + 1 + 1) (by omega) _ _ _ _ _)) (fun _ _ => trivial)
          · have z1 : ((st.length : Int) == 0) = false := beq_eq_false_iff_ne.2 (by omega)
            rcases hle with h64 | h64
            · have hDt : D = false := by rw [← HD.out, decide_eq_false hz, h64]; rfl
              subst hDt
              have hl2 := HL2.out
              have hla := HLA.out
              rw [if_neg (by decide)] at hl2 hla
              have HL2E := Lib.hid hl2
              have HLAE := Lib.hid hla
              have H64 := Lib.hid h64
              clear hz hl2 hla h64
              go_upto_region 15 with (first | (go_at_call 54; go_loud ((with_reducible refine (starts_calls g r.f1 hcg hkt.1 hkt.2 _).mono ?_); rintro e w6 ⟨vs, rfl, hR6, hb6⟩; obtain ⟨A6, c6, rfl, hc6, _⟩ := Kd.R_reads hR6; have HF6 := Lib.hid (HF5.out.below hb6); have HR6 := Lib.hid hR6; have HB6 := Lib.hid hb6; clear hb6 hR6)) | (go_at_call 55; go_loud ((with_reducible refine (delete1_calls g s.f0 w.heap.size (w.heap.size + 1) w5.heap.size w6 w6 (fun _ => True) A6 c6 (startsP g r.f1) ⟨HF6.out.gg, _, HF6.out.gs, rfl⟩ ?hA ?hB HR6.out (Below.refl _ _) HB6.out.size (by omega)).mono ?_); (case hA => have := HFS.out; omega); (case hB => have := HFS.out; omega); rintro e w7 ⟨vt, rfl, hR7, hb7⟩; rw [HST.out] at hR7; obtain ⟨A7, c7, rfl, hc7, _⟩ := Kd.R_reads hR7; have HF7 := Lib.hid (HF5.out.below (HB6.out.trans hb7)); have HR7 := Lib.hid hR7; have y0 : w7.cell? ⟨w.heap.size + 1, 0, none⟩ = some (.int .i64 s.f0) := (blk_cell HF7.out.gs 0).trans rfl; have y1 : w7.cell? ⟨w.heap.size + 1, 1, none⟩ = some (.int .i64 s.f1) := (blk_cell HF7.out.gs 1).trans rfl; have y2 : w7.cell? ⟨w.heap.size + 1, 2, none⟩ = some (.int .i64 s.f2) := (blk_cell HF7.out.gs 2).trans rfl; have y3 : w7.cell? ⟨w.heap.size + 1, 3, none⟩ = some (.int .i64 n2) := (blk_cell HF7.out.gs 3).trans rfl; have y4 : w7.cell? ⟨w.heap.size + 1, 4, none⟩ = some (.slice A5 s.f4.length c5) := (blk_cell HF7.out.gs 4).trans rfl; have y7 : w7.cell? ⟨w.heap.size + 2, 0, none⟩ = some (.int .i64 r.f0) := (blk_cell HF7.out.gr 0).trans rfl; have y6 : w7.cell? ⟨w.heap.size + 2, 1, none⟩ = some (.int .i64 r.f1) := (blk_cell HF7.out.gr 1).trans rfl; have yf : w7.frozen? ⟨w.heap.size + 1, 1, none⟩ = false := blk_frozen HF7.out.gs 1; clear hR7 hb7 HF6 HR6 HB6)) | (go_at_call 57; go_loud (have htk := take_calls r.f0 v (w.heap.size + 1) A7 c7 st A5 c5 s.f4 w7 _ _ _ _ HF7.out.gs (Kd.R_reads' HF7.out.row).2.2 hc5 (by omega) (R_nil26 HF7.out.row) (Kd.R_reads' HR7.out).2.2 hc7 (by omega); rw [HL1.out, H64.out] at htk; (with_reducible refine htk.mono ?_); rintro e w8 ⟨wx, v9, rfl, hbx, hRx, hw8⟩; change w8 = wx.setCell ⟨w.heap.size + 1, 4, none⟩ v9 at hw8; subst hw8; obtain ⟨A9, c9, rfl, hc9, _⟩ := Kd.R_reads hRx; have HF8 := Lib.hid ((HF7.out.below hbx).put4 (R_base hRx (by have := HF7.out.size; omega) HF7.out.size)); clear hbx hRx)))
              have F8 := HF8.out
              obtain ⟨wc, hwc⟩ : ∃ wc, wc = wx.setCell ⟨w.heap.size + 1, 4, none⟩ (.slice A9 l1.length c9) := ⟨_, rfl⟩
              rw [← hwc] at F8 ⊢
              rw [HL2E.out, HLAE.out] at F8
              replace HF8 := Lib.hid F8
              clear hwc F8 HF7 HR7 HL2E HLAE
              obtain ⟨KO, hKO⟩ : ∃ K, l2.filter (fun c => !closedP g c.f1 M) = K := ⟨_, rfl⟩
              obtain ⟨KL, hKL⟩ : ∃ K, l2.filter (fun c => closedP g c.f1 M) = K := ⟨_, rfl⟩
              have hfp2 := hfp.out
              rw [hKO, hKL] at hfp2
              replace hfp := Lib.hid hfp2
              have HKO := Lib.hid hKO
              have HKL := Lib.hid hKL
              clear hfp2 hKO hKL
              have em : (if s.f0 < r.f1 then r.f1 else s.f0) = M := HM.out
              have F9 := HF8.out
              have z0 : wc.cell? ⟨w.heap.size + 1, 0, none⟩ = some (.int .i64 s.f0) := (blk_cell F9.gs 0).trans rfl
              have z4 : wc.cell? ⟨w.heap.size + 1, 4, none⟩ = some (.slice A9 l2.length c9) := (blk_cell F9.gs 4).trans rfl
              have zr : wc.cell? ⟨w.heap.size + 2, 1, none⟩ = some (.int .i64 r.f1) := (blk_cell F9.gr 1).trans rfl
              have zf : wc.frozen? ⟨w.heap.size + 1, 0, none⟩ = false := blk_frozen F9.gs 0
              have F10 : FeedW w _ g r M la s.f2 n2 (.slice A9 l2.length c9) l2 := F9.put 0 (u := .int .i64 M) rfl
              obtain ⟨WD, hWD⟩ : ∃ W, W = (wc.setCell ⟨w.heap.size + 1, 0, none⟩ (.int .i64 M)).alloc (.cells #[.slice none 0 0] 26) := ⟨_, rfl⟩
              have hbD : Below (wc.setCell ⟨w.heap.size + 1, 0, none⟩ (.int .i64 M)).heap.size (wc.setCell ⟨w.heap.size + 1, 0, none⟩ (.int .i64 M)) WD := by rw [hWD]; exact (Below.refl _ _).alloc (Nat.le_refl _) _
              have F11 := F10.below hbD
              have hcs : (wc.setCell ⟨w.heap.size + 1, 0, none⟩ (.int .i64 M)).heap.size = wc.heap.size := by simp
              have hgoD : WD.heap[wc.heap.size]? = some (.cells #[.slice none 0 0] 26 (0, 0)) := by rw [hWD, ← hcs]; exact heap_alloc_new _ _
              have hsz9 := F9.size
              have hOver : Over WD wc.heap.size wc.heap.size [] := ⟨Nat.le_refl _, _, hgoD, Kd.R_nil _ _ _ _ _⟩
              have hrb : ∀ k, (Value.slice A9 l2.length c9).ownBlock = some k → k < wc.heap.size ∧ k ≠ w.heap.size ∧ k ≠ w.heap.size + 1 := fun k hk => by
                obtain ⟨o, ho⟩ := blk_own F9.row hk
                have h1 := lt_of_block ho
                have h2 := F9.row.1 k hk
                simp only at h2
                exact ⟨h1, by omega, by omega⟩
              have hdel := delete2_calls g M w.heap.size (w.heap.size + 1) wc.heap.size wc.heap.size w.heap.size w WD (fun k => w.heap.size + 4 ≤ k) A9 c9 l2 [] ⟨F11.gg, _, F11.gs, rfl⟩ (by omega) (by omega) hOver (by simp) (by omega) F11.row hrb F11.bl HL2L.out
              rw [hWD] at hdel
              have z4D : WD.cell? ⟨w.heap.size + 1, 4, none⟩ = some (.slice A9 l2.length c9) := (blk_cell F11.gs 4).trans rfl
              rw [hWD] at z4D
              have HDEL := Lib.hid hdel
              have HF11 := Lib.hid F11
              have HRB := Lib.hid hrb
              have HWD := Lib.hid hWD
              have HSZ9 := Lib.hid hsz9
              clear F9 F10 F11 hbD hcs hgoD hOver hrb hdel hWD hsz9
              go_upto_region 18 with (first | (go_at_call 58; go_loud ((with_reducible refine HDEL.out.mono ?_); rintro e w9 ⟨v9, rfl, hR9, hV9, hb9, hfr9⟩; rw [← HWD.out] at hfr9; rw [HKO.out] at hR9; rw [HKL.out, List.nil_append] at hV9; obtain ⟨A10, c10, rfl, hc10, _⟩ := Kd.R_reads hR9; obtain ⟨hVl, vo, hvo, hRo⟩ := hV9; obtain ⟨Ao, co, rfl, hco, _⟩ := Kd.R_reads hRo; have hgs9 := (hfr9 (w.heap.size + 1) (by have := HSZ9.out; omega) (fun e => (HRB.out _ e).2.2 rfl)).trans HF11.out.gs; have hge9 := (hfr9 (w.heap.size + 3) (by have := HSZ9.out; omega) (fun e => by have := HF11.out.row.1 _ e; simp only at this; omega)).trans HF11.out.ge; have fz : w9.frozen? ⟨w.heap.size + 1, 4, none⟩ = false := blk_frozen hgs9 4; have fy : w9.cell? ⟨w.heap.size + 1, 4, none⟩ = some (.slice A9 l2.length c9) := (blk_cell hgs9 4).trans rfl; have HGS9 := Lib.hid hgs9; have HGE9 := Lib.hid hge9; have HR9 := Lib.hid hR9; have HRO := Lib.hid hRo; have HB9 := Lib.hid hb9; have HVO := Lib.hid hvo; clear hgs9 hge9 hR9 hRo hb9 hvo hVl hfr9)))
              obtain ⟨WX, hWX⟩ : ∃ W, W = w9.setCell ⟨w.heap.size + 1, 4, none⟩ (.slice A10 KO.length c10) := ⟨_, rfl⟩
              have hgsX : WX.heap[w.heap.size + 1]? = some (.cells #[.int .i64 M, .int .i64 la, .int .i64 s.f2, .int .i64 n2, .slice A10 KO.length c10] 28 (0, 0)) := by rw [hWX]; exact blk_put HGS9.out 4 _ rfl
              have hgeX : WX.heap[w.heap.size + 3]? = some (.cells #[.int .i64 0, .int .i64 0, .int .i64 0, .int .i64 0, .slice none 0 0] 28 (0, 0)) := by rw [hWX]; exact (heap_setCell_other _ _ _ _ (show w.heap.size + 3 ≠ w.heap.size + 1 by omega)).trans HGE9.out
              have hgoX : WX.heap[wc.heap.size]? = some (.cells #[.slice Ao KL.length co] 26 (0, 0)) := by rw [hWX]; exact (heap_setCell_other _ _ _ _ (show wc.heap.size ≠ w.heap.size + 1 by have := HSZ9.out; omega)).trans HVO.out
              have hbX : Below w.heap.size w WX := by rw [hWX]; exact HB9.out.setCell (show w.heap.size ≤ w.heap.size + 1 by omega) _
              have hRX : Kd.R k46 46 WX w.heap.size (fun k => w.heap.size + 4 ≤ k) (.slice A10 KO.length c10) KO := by rw [hWX]; exact R_other HR9.out (fun k hk => heap_setCell_other _ _ _ _ (show k ≠ w.heap.size + 1 by omega))
              have hROX : Kd.R k46 46 WX w.heap.size (fun k => w.heap.size + 4 ≤ k) (.slice Ao KL.length co) KL := by
                rw [hWX]
                exact R_other (R_base HRO.out (by have := HSZ9.out; omega) (by have := HSZ9.out; omega)) (fun k hk => heap_setCell_other _ _ _ _ (show k ≠ w.heap.size + 1 by omega))
              rw [← hWX]
              have hge3 : wc.heap.size ≠ w.heap.size + 1 + 1 + 1 := by have := HSZ9.out; omega
              have HGSX := Lib.hid hgsX
              have HGEX := Lib.hid hgeX
              have HGOX := Lib.hid hgoX
              have HBX := Lib.hid hbX
              have HRX := Lib.hid hRX
              have HROX := Lib.hid hROX
              have e0 : WX.cell? ⟨w.heap.size + 3, 0, none⟩ = some (.int .i64 0) := (blk_cell hgeX 0).trans rfl
              have e1 : WX.cell? ⟨w.heap.size + 3, 1, none⟩ = some (.int .i64 0) := (blk_cell hgeX 1).trans rfl
              have e2 : WX.cell? ⟨w.heap.size + 3, 2, none⟩ = some (.int .i64 0) := (blk_cell hgeX 2).trans rfl
              have e3 : WX.cell? ⟨w.heap.size + 3, 3, none⟩ = some (.int .i64 0) := (blk_cell hgeX 3).trans rfl
              have e4 : WX.cell? ⟨w.heap.size + 3, 4, none⟩ = some (.slice none 0 0) := (blk_cell hgeX 4).trans rfl
              have ef0 : WX.frozen? ⟨w.heap.size + 3, 0, none⟩ = false := blk_frozen hgeX 0
              have ef1 : WX.frozen? ⟨w.heap.size + 3, 1, none⟩ = false := blk_frozen hgeX 1
              have ef2 : WX.frozen? ⟨w.heap.size + 3, 2, none⟩ = false := blk_frozen hgeX 2
              have ef3 : WX.frozen? ⟨w.heap.size + 3, 3, none⟩ = false := blk_frozen hgeX 3
              have ef4 : WX.frozen? ⟨w.heap.size + 3, 4, none⟩ = false := blk_frozen hgeX 4
              clear hgsX hgeX hgoX hbX hRX hROX hWX HF8 HL2L HM em
              refine wp_region_held_drew (S := fun w_ => ∀ k, k ≠ w.heap.size + 1 + 1 + 1 → w_.heap[k]? = WX.heap[k]?) (by kernel_rfl) (fun _ _ => rfl) (fun hS => ?_)
              change wpAnyH _ _ _ _ _ 5 #[false, false, false, false, false] _ _
              refine takeE 0 (some 93) #[true, false, false, false, false] hS ?_ (hy := fun w_ hS_ => by have q_ := (hS_ (w.heap.size + 1) (by omega)).trans HGSX.out; have q0_ : w_.cell? ⟨w.heap.size + 1, 0, none⟩ = some (.int .i64 M) := (blk_cell q_ 0).trans rfl; have q1_ : w_.cell? ⟨w.heap.size + 1, 1, none⟩ = some (.int .i64 la) := (blk_cell q_ 1).trans rfl; have q2_ : w_.cell? ⟨w.heap.size + 1, 2, none⟩ = some (.int .i64 s.f2) := (blk_cell q_ 2).trans rfl; have q3_ : w_.cell? ⟨w.heap.size + 1, 3, none⟩ = some (.int .i64 n2) := (blk_cell q_ 3).trans rfl; have q4_ : w_.cell? ⟨w.heap.size + 1, 4, none⟩ = some (.slice A10 KO.length c10) := (blk_cell q_ 4).trans rfl; go_simp <;> with_reducible rfl)
              refine takeE 1 (some 94) #[true, true, false, false, false] hS ?_ (hy := fun w_ hS_ => by have q_ := (hS_ wc.heap.size hge3).trans HGOX.out; have q0_ : w_.cell? ⟨wc.heap.size, 0, none⟩ = some (.slice Ao KL.length co) := (blk_cell q_ 0).trans rfl; go_simp <;> with_reducible rfl)
              refine doD (i := 2) (ls2 := #[true, true, true, false, false]) (by kernel_rfl) rfl (by kernel_rfl) (by kernel_rfl) (fun K hK => ?_)
              go_simp
              refine hK.out _ _ ?_ (fun hS_ => ?_)
              · show ∀ k, k ≠ w.heap.size + 1 + 1 + 1 → _
                exact fun k hk => put5_drew hk _ _ _ _ _
              clear hK K hS
              have hS := hS_
              clear hS_
              refine takeE 3 (some 7) #[true, true, true, true, false] hS ?_
              refine takeE 4 (some 8) #[true, true, true, true, true] hS ?_
              refine wpAnyH_done (by kernel_rfl) ?_ _
              try go_simp
              go_wp2
              have hp := hfp.out
              subst hp
              refine bodyPost_ret (results_ctt rfl _ _ (w.heap.size + 1 + 1 + 1) 28 #[.int .i64 M, .int .i64 la, .int .i64 s.f2, .int .i64 n2, .slice A10 KO.length c10] (0, 0) _ rfl (blk_drew (put5_heap (w := WX) (g := w.heap.size + 1 + 1 + 1) HGEX.out (.int .i64 M) (.int .i64 la) (.int .i64 s.f2) (.int .i64 n2) (.slice A10 KO.length c10))) Try.underlying28 rfl (by kernel_rfl)) rfl ?_
              refine ⟨_, _, rfl, ?_, ?_, below_drew (put5_below (g := w.heap.size + 1 + 1 + 1) HBX.out (by omega) _ _ _ _ _)⟩
              · exact R_ok (R_other (w := WX) HRX.out (fun k hk => put5_drew (g := w.heap.size + 1 + 1 + 1) (by omega) _ _ _ _ _)) (fun _ _ => trivial)
              · exact R_ok (R_other (w := WX) HROX.out (fun k hk => put5_drew (g := w.heap.size + 1 + 1 + 1) (by omega) _ _ _ _ _)) (fun _ _ => trivial)
            · have hDt : D = true := by rw [← HD.out, decide_eq_false hz, h64]; rfl
              subst hDt
              have hl2 := HL2.out
              have hla := HLA.out
              rw [if_pos rfl] at hl2 hla
              have HL2E := Lib.hid hl2
              have HLAE := Lib.hid hla
              have H64 := Lib.hid h64
              clear hz hl2 hla h64
              go_upto_region 15 with (first | (go_at_call 54; go_loud ((with_reducible refine (starts_calls g r.f1 hcg hkt.1 hkt.2 _).mono ?_); rintro e w6 ⟨vs, rfl, hR6, hb6⟩; obtain ⟨A6, c6, rfl, hc6, _⟩ := Kd.R_reads hR6; have HF6 := Lib.hid (HF5.out.below hb6); have HR6 := Lib.hid hR6; have HB6 := Lib.hid hb6; clear hb6 hR6)) | (go_at_call 55; go_loud ((with_reducible refine (delete1_calls g s.f0 w.heap.size (w.heap.size + 1) w5.heap.size w6 w6 (fun _ => True) A6 c6 (startsP g r.f1) ⟨HF6.out.gg, _, HF6.out.gs, rfl⟩ ?hA ?hB HR6.out (Below.refl _ _) HB6.out.size (by omega)).mono ?_); (case hA => have := HFS.out; omega); (case hB => have := HFS.out; omega); rintro e w7 ⟨vt, rfl, hR7, hb7⟩; rw [HST.out] at hR7; obtain ⟨A7, c7, rfl, hc7, _⟩ := Kd.R_reads hR7; have HF7 := Lib.hid (HF5.out.below (HB6.out.trans hb7)); have HR7 := Lib.hid hR7; have y0 : w7.cell? ⟨w.heap.size + 1, 0, none⟩ = some (.int .i64 s.f0) := (blk_cell HF7.out.gs 0).trans rfl; have y1 : w7.cell? ⟨w.heap.size + 1, 1, none⟩ = some (.int .i64 s.f1) := (blk_cell HF7.out.gs 1).trans rfl; have y2 : w7.cell? ⟨w.heap.size + 1, 2, none⟩ = some (.int .i64 s.f2) := (blk_cell HF7.out.gs 2).trans rfl; have y3 : w7.cell? ⟨w.heap.size + 1, 3, none⟩ = some (.int .i64 n2) := (blk_cell HF7.out.gs 3).trans rfl; have y4 : w7.cell? ⟨w.heap.size + 1, 4, none⟩ = some (.slice A5 s.f4.length c5) := (blk_cell HF7.out.gs 4).trans rfl; have y7 : w7.cell? ⟨w.heap.size + 2, 0, none⟩ = some (.int .i64 r.f0) := (blk_cell HF7.out.gr 0).trans rfl; have y6 : w7.cell? ⟨w.heap.size + 2, 1, none⟩ = some (.int .i64 r.f1) := (blk_cell HF7.out.gr 1).trans rfl; have yf : w7.frozen? ⟨w.heap.size + 1, 1, none⟩ = false := blk_frozen HF7.out.gs 1; clear hR7 hb7 HF6 HR6 HB6)) | (go_at_call 57; go_loud (have htk := take_calls r.f0 v (w.heap.size + 1) A7 c7 st A5 c5 s.f4 w7 _ _ _ _ HF7.out.gs (Kd.R_reads' HF7.out.row).2.2 hc5 (by omega) (R_nil26 HF7.out.row) (Kd.R_reads' HR7.out).2.2 hc7 (by omega); rw [HL1.out, H64.out] at htk; (with_reducible refine htk.mono ?_); rintro e w8 ⟨wx, v9, rfl, hbx, hRx, hw8⟩; change w8 = wx at hw8; subst hw8; have HF8 := Lib.hid (HF7.out.below hbx); have yg1 : w8.cell? ⟨w.heap.size + 1, 1, none⟩ = some (.int .i64 s.f1) := (blk_cell HF8.out.gs 1).trans rfl; have yg2 : w8.frozen? ⟨w.heap.size + 1, 1, none⟩ = false := blk_frozen HF8.out.gs 1; clear hbx hRx)))
              have F8 : FeedW w _ g r s.f0 (wrap64 (s.f1 + 1)) s.f2 n2 (.slice A5 s.f4.length c5) s.f4 := HF8.out.put 1 (u := .int .i64 (wrap64 (s.f1 + 1))) rfl
              rw [HL2E.out, HLAE.out] at F8
              obtain ⟨wc, hwc⟩ : ∃ wc, wc = w8.setCell ⟨w.heap.size + 1, 1, none⟩ (.int .i64 la) := ⟨_, rfl⟩
              rw [← hwc] at F8
              rw [HLAE.out, ← hwc]
              replace HF8 := Lib.hid F8
              clear hwc F8 HF7 HR7 HL2E HLAE
              obtain ⟨KO, hKO⟩ : ∃ K, l2.filter (fun c => !closedP g c.f1 M) = K := ⟨_, rfl⟩
              obtain ⟨KL, hKL⟩ : ∃ K, l2.filter (fun c => closedP g c.f1 M) = K := ⟨_, rfl⟩
              have hfp2 := hfp.out
              rw [hKO, hKL] at hfp2
              replace hfp := Lib.hid hfp2
              have HKO := Lib.hid hKO
              have HKL := Lib.hid hKL
              clear hfp2 hKO hKL
              have em : (if s.f0 < r.f1 then r.f1 else s.f0) = M := HM.out
              have F9 := HF8.out
              have z0 : wc.cell? ⟨w.heap.size + 1, 0, none⟩ = some (.int .i64 s.f0) := (blk_cell F9.gs 0).trans rfl
              have z4 : wc.cell? ⟨w.heap.size + 1, 4, none⟩ = some (.slice A5 l2.length c5) := (blk_cell F9.gs 4).trans rfl
              have zr : wc.cell? ⟨w.heap.size + 2, 1, none⟩ = some (.int .i64 r.f1) := (blk_cell F9.gr 1).trans rfl
              have zf : wc.frozen? ⟨w.heap.size + 1, 0, none⟩ = false := blk_frozen F9.gs 0
              have F10 : FeedW w _ g r M la s.f2 n2 (.slice A5 l2.length c5) l2 := F9.put 0 (u := .int .i64 M) rfl
              obtain ⟨WD, hWD⟩ : ∃ W, W = (wc.setCell ⟨w.heap.size + 1, 0, none⟩ (.int .i64 M)).alloc (.cells #[.slice none 0 0] 26) := ⟨_, rfl⟩
              have hbD : Below (wc.setCell ⟨w.heap.size + 1, 0, none⟩ (.int .i64 M)).heap.size (wc.setCell ⟨w.heap.size + 1, 0, none⟩ (.int .i64 M)) WD := by rw [hWD]; exact (Below.refl _ _).alloc (Nat.le_refl _) _
              have F11 := F10.below hbD
              have hcs : (wc.setCell ⟨w.heap.size + 1, 0, none⟩ (.int .i64 M)).heap.size = wc.heap.size := by simp
              have hgoD : WD.heap[wc.heap.size]? = some (.cells #[.slice none 0 0] 26 (0, 0)) := by rw [hWD, ← hcs]; exact heap_alloc_new _ _
              have hsz9 := F9.size
              have hOver : Over WD wc.heap.size wc.heap.size [] := ⟨Nat.le_refl _, _, hgoD, Kd.R_nil _ _ _ _ _⟩
              have hrb : ∀ k, (Value.slice A5 l2.length c5).ownBlock = some k → k < wc.heap.size ∧ k ≠ w.heap.size ∧ k ≠ w.heap.size + 1 := fun k hk => by
                obtain ⟨o, ho⟩ := blk_own F9.row hk
                have h1 := lt_of_block ho
                have h2 := F9.row.1 k hk
                simp only at h2
                exact ⟨h1, by omega, by omega⟩
              have hdel := delete2_calls g M w.heap.size (w.heap.size + 1) wc.heap.size wc.heap.size w.heap.size w WD (fun k => w.heap.size + 4 ≤ k) A5 c5 l2 [] ⟨F11.gg, _, F11.gs, rfl⟩ (by omega) (by omega) hOver (by simp) (by omega) F11.row hrb F11.bl HL2L.out
              rw [hWD] at hdel
              have z4D : WD.cell? ⟨w.heap.size + 1, 4, none⟩ = some (.slice A5 l2.length c5) := (blk_cell F11.gs 4).trans rfl
              rw [hWD] at z4D
              have HDEL := Lib.hid hdel
              have HF11 := Lib.hid F11
              have HRB := Lib.hid hrb
              have HWD := Lib.hid hWD
              have HSZ9 := Lib.hid hsz9
              clear F9 F10 F11 hbD hcs hgoD hOver hrb hdel hWD hsz9
              go_upto_region 18 with (first | (go_at_call 58; go_loud ((with_reducible refine HDEL.out.mono ?_); rintro e w9 ⟨v9, rfl, hR9, hV9, hb9, hfr9⟩; rw [← HWD.out] at hfr9; rw [HKO.out] at hR9; rw [HKL.out, List.nil_append] at hV9; obtain ⟨A10, c10, rfl, hc10, _⟩ := Kd.R_reads hR9; obtain ⟨hVl, vo, hvo, hRo⟩ := hV9; obtain ⟨Ao, co, rfl, hco, _⟩ := Kd.R_reads hRo; have hgs9 := (hfr9 (w.heap.size + 1) (by have := HSZ9.out; omega) (fun e => (HRB.out _ e).2.2 rfl)).trans HF11.out.gs; have hge9 := (hfr9 (w.heap.size + 3) (by have := HSZ9.out; omega) (fun e => by have := HF11.out.row.1 _ e; simp only at this; omega)).trans HF11.out.ge; have fz : w9.frozen? ⟨w.heap.size + 1, 4, none⟩ = false := blk_frozen hgs9 4; have fy : w9.cell? ⟨w.heap.size + 1, 4, none⟩ = some (.slice A5 l2.length c5) := (blk_cell hgs9 4).trans rfl; have HGS9 := Lib.hid hgs9; have HGE9 := Lib.hid hge9; have HR9 := Lib.hid hR9; have HRO := Lib.hid hRo; have HB9 := Lib.hid hb9; have HVO := Lib.hid hvo; clear hgs9 hge9 hR9 hRo hb9 hvo hVl hfr9)))
              obtain ⟨WX, hWX⟩ : ∃ W, W = w9.setCell ⟨w.heap.size + 1, 4, none⟩ (.slice A10 KO.length c10) := ⟨_, rfl⟩
              have hgsX : WX.heap[w.heap.size + 1]? = some (.cells #[.int .i64 M, .int .i64 la, .int .i64 s.f2, .int .i64 n2, .slice A10 KO.length c10] 28 (0, 0)) := by rw [hWX]; exact blk_put HGS9.out 4 _ rfl
              have hgeX : WX.heap[w.heap.size + 3]? = some (.cells #[.int .i64 0, .int .i64 0, .int .i64 0, .int .i64 0, .slice none 0 0] 28 (0, 0)) := by rw [hWX]; exact (heap_setCell_other _ _ _ _ (show w.heap.size + 3 ≠ w.heap.size + 1 by omega)).trans HGE9.out
              have hgoX : WX.heap[wc.heap.size]? = some (.cells #[.slice Ao KL.length co] 26 (0, 0)) := by rw [hWX]; exact (heap_setCell_other _ _ _ _ (show wc.heap.size ≠ w.heap.size + 1 by have := HSZ9.out; omega)).trans HVO.out
              have hbX : Below w.heap.size w WX := by rw [hWX]; exact HB9.out.setCell (show w.heap.size ≤ w.heap.size + 1 by omega) _
              have hRX : Kd.R k46 46 WX w.heap.size (fun k => w.heap.size + 4 ≤ k) (.slice A10 KO.length c10) KO := by rw [hWX]; exact R_other HR9.out (fun k hk => heap_setCell_other _ _ _ _ (show k ≠ w.heap.size + 1 by omega))
              have hROX : Kd.R k46 46 WX w.heap.size (fun k => w.heap.size + 4 ≤ k) (.slice Ao KL.length co) KL := by
                rw [hWX]
                exact R_other (R_base HRO.out (by have := HSZ9.out; omega) (by have := HSZ9.out; omega)) (fun k hk => heap_setCell_other _ _ _ _ (show k ≠ w.heap.size + 1 by omega))
              rw [← hWX]
              have hge3 : wc.heap.size ≠ w.heap.size + 1 + 1 + 1 := by have := HSZ9.out; omega
              have HGSX := Lib.hid hgsX
              have HGEX := Lib.hid hgeX
              have HGOX := Lib.hid hgoX
              have HBX := Lib.hid hbX
              have HRX := Lib.hid hRX
              have HROX := Lib.hid hROX
              have e0 : WX.cell? ⟨w.heap.size + 3, 0, none⟩ = some (.int .i64 0) := (blk_cell hgeX 0).trans rfl
              have e1 : WX.cell? ⟨w.heap.size + 3, 1, none⟩ = some (.int .i64 0) := (blk_cell hgeX 1).trans rfl
              have e2 : WX.cell? ⟨w.heap.size + 3, 2, none⟩ = some (.int .i64 0) := (blk_cell hgeX 2).trans rfl
              have e3 : WX.cell? ⟨w.heap.size + 3, 3, none⟩ = some (.int .i64 0) := (blk_cell hgeX 3).trans rfl
              have e4 : WX.cell? ⟨w.heap.size + 3, 4, none⟩ = some (.slice none 0 0) := (blk_cell hgeX 4).trans rfl
              have ef0 : WX.frozen? ⟨w.heap.size + 3, 0, none⟩ = false := blk_frozen hgeX 0
              have ef1 : WX.frozen? ⟨w.heap.size + 3, 1, none⟩ = false := blk_frozen hgeX 1
              have ef2 : WX.frozen? ⟨w.heap.size + 3, 2, none⟩ = false := blk_frozen hgeX 2
              have ef3 : WX.frozen? ⟨w.heap.size + 3, 3, none⟩ = false := blk_frozen hgeX 3
              have ef4 : WX.frozen? ⟨w.heap.size + 3, 4, none⟩ = false := blk_frozen hgeX 4
              clear hgsX hgeX hgoX hbX hRX hROX hWX HF8 HL2L HM em
              refine wp_region_held_drew (S := fun w_ => ∀ k, k ≠ w.heap.size + 1 + 1 + 1 → w_.heap[k]? = WX.heap[k]?) (by kernel_rfl) (fun _ _ => rfl) (fun hS => ?_)
              change wpAnyH _ _ _ _ _ 5 #[false, false, false, false, false] _ _
              refine takeE 0 (some 93) #[true, false, false, false, false] hS ?_ (hy := fun w_ hS_ => by have q_ := (hS_ (w.heap.size + 1) (by omega)).trans HGSX.out; have q0_ : w_.cell? ⟨w.heap.size + 1, 0, none⟩ = some (.int .i64 M) := (blk_cell q_ 0).trans rfl; have q1_ : w_.cell? ⟨w.heap.size + 1, 1, none⟩ = some (.int .i64 la) := (blk_cell q_ 1).trans rfl; have q2_ : w_.cell? ⟨w.heap.size + 1, 2, none⟩ = some (.int .i64 s.f2) := (blk_cell q_ 2).trans rfl; have q3_ : w_.cell? ⟨w.heap.size + 1, 3, none⟩ = some (.int .i64 n2) := (blk_cell q_ 3).trans rfl; have q4_ : w_.cell? ⟨w.heap.size + 1, 4, none⟩ = some (.slice A10 KO.length c10) := (blk_cell q_ 4).trans rfl; go_simp <;> with_reducible rfl)
              refine takeE 1 (some 94) #[true, true, false, false, false] hS ?_ (hy := fun w_ hS_ => by have q_ := (hS_ wc.heap.size hge3).trans HGOX.out; have q0_ : w_.cell? ⟨wc.heap.size, 0, none⟩ = some (.slice Ao KL.length co) := (blk_cell q_ 0).trans rfl; go_simp <;> with_reducible rfl)
              refine doD (i := 2) (ls2 := #[true, true, true, false, false]) (by kernel_rfl) rfl (by kernel_rfl) (by kernel_rfl) (fun K hK => ?_)
              go_simp
              refine hK.out _ _ ?_ (fun hS_ => ?_)
              · show ∀ k, k ≠ w.heap.size + 1 + 1 + 1 → _
                exact fun k hk => put5_drew hk _ _ _ _ _
              clear hK K hS
              have hS := hS_
              clear hS_
              refine takeE 3 (some 7) #[true, true, true, true, false] hS ?_
              refine takeE 4 (some 8) #[true, true, true, true, true] hS ?_
              refine wpAnyH_done (by kernel_rfl) ?_ _
              try go_simp
              go_wp2
              have hp := hfp.out
              subst hp
              refine bodyPost_ret (results_ctt rfl _ _ (w.heap.size + 1 + 1 + 1) 28 #[.int .i64 M, .int .i64 la, .int .i64 s.f2, .int .i64 n2, .slice A10 KO.length c10] (0, 0) _ rfl (blk_drew (put5_heap (w := WX) (g := w.heap.size + 1 + 1 + 1) HGEX.out (.int .i64 M) (.int .i64 la) (.int .i64 s.f2) (.int .i64 n2) (.slice A10 KO.length c10))) Try.underlying28 rfl (by kernel_rfl)) rfl ?_
              refine ⟨_, _, rfl, ?_, ?_, below_drew (put5_below (g := w.heap.size + 1 + 1 + 1) HBX.out (by omega) _ _ _ _ _)⟩
              · exact R_ok (R_other (w := WX) HRX.out (fun k hk => put5_drew (g := w.heap.size + 1 + 1 + 1) (by omega) _ _ _ _ _)) (fun _ _ => trivial)
              · exact R_ok (R_other (w := WX) HROX.out (fun k hk => put5_drew (g := w.heap.size + 1 + 1 + 1) (by omega) _ _ _ _ _)) (fun _ _ => trivial)
end Go.Proofs.Ytgipepjpkmlmaaa.P
