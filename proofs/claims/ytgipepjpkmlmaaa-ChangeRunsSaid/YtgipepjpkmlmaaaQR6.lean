import Derived.Test.YtgipepjpkmlmaaaQR2
import Derived.Test.YtgipepjpkmlmaaaQR3
import Derived.Test.YtgipepjpkmlmaaaQR4
namespace Go.Proofs.Ytgipepjpkmlmaaa.P
open Go.RowKit Go.Proofs.YtgipepjpkmlmaaaW.PrintWords Go.Proofs.YtgipepjpkmlmaaaW.PrintLast Go.Proofs.YtgipepjpkmlmaaaW.PrintMore
set_option linter.unusedVariables false
set_option linter.unusedSimpArgs false
/-- A row of numbers in a block of its own. -/
theorem ints_C {w : World} {g : Nat} (l : List Int) (hl : l.length ≤ 1000000) (h : w.heap[g]? = some (.cells (flatI l).toArray 3 (0, 0))) : (Kd.int .i64).C w (some ⟨g, 0, none⟩) l.length l := by
  refine ⟨rfl, by omega, fun _ => ⟨_, rfl, fun j p hj => ⟨[.int .i64 p], rfl, rfl, fun i u hu => ?_⟩⟩⟩
  have hi : i = 0 := by
    cases i with
    | zero => rfl
    | succ i => simp at hu
  subst hi
  have hu2 : u = .int .i64 p := by simpa using hu.symm
  subst hu2
  have e : ((⟨g, 0, none⟩ : Addr).add (j * (Kd.int .i64).sz + 0)) = ⟨g, j, none⟩ := by
    show (⟨g, 0, none⟩ : Addr).add (j * 1 + 0) = _
    rw [Nat.mul_one, Nat.add_zero]
    unfold Addr.add
    simp
    omega
  rw [e, blk_cell h, List.getElem?_toArray, flatI, List.getElem?_map, hj]
  rfl
theorem below_cell {w w' : World} {a : Addr} {v : Value} (hb : Below w.heap.size w w') (h : w.cell? a = some v) : w'.cell? a = some v :=
  (hb.cell (World.block_lt_of_cell? w a h)).trans h
/-- What is asked ahead of the windows. -/
def preOk (g : S23) (s : S28) : Bool := chkG g && ((s.f0 == -1 || inB s.f0) && (([s.f1, s.f2, s.f3].all inB) && (decide (s.f1 ≤ wrap64 (s.f3 - s.f2)) && decide (s.f4.length ≤ 64))))
/-- What is asked of a window. -/
def okAt (g : S23) (s : S28) (i : Nat) : Bool :=
  let x := rd_T46 s.f4 (i : Int)
  [x.f0, x.f1].all inB && (decide (x.f0 ≤ 1048576) && (decide (Int.tmod x.f1 g.f1 = 0) && (decide (x.f1 ≤ s.f0) && (!closedP g x.f1 s.f0 && (aggOk x.f2 && ((i : Int) == 0 || decide (ordP (rd_T46 s.f4 ((i : Int) - 1)) x < 0)))))))
def chkL (g : S23) (s : S28) : Nat → Nat → Bool → Bool
  | 0, _, b => b
  | k + 1, i, b => if b = true then chkL g s k (i + 1) (okAt g s i) else false
def checkP (g : S23) (s : S28) : Bool := chkL g s s.f4.length 0 (preOk g s)
def OK21 (g : S23) (s : S28) (v : Value) : Prop := v = .bool (preOk g s)
set_option maxHeartbeats 16000000 in
set_option maxRecDepth 100000 in
theorem check21_calls (g : S23) (s : S28) (A : Option Addr) (c : Nat) (w : World) (hr : k46.C w A s.f4.length s.f4) (hc : s.f4.length ≤ c) (hl : s.f4.length ≤ 1000000) :
    Calls Try.prog 21 #[gridV g, .agg #[.int .i64 s.f0, .int .i64 s.f1, .int .i64 s.f2, .int .i64 s.f3, .slice A s.f4.length c]] w fun e w' => e = .returned (.int .i64 (argE (checkP g s))) ∧ Below w.heap.size w w' := by
  obtain ⟨R, hR0⟩ : ∃ R, checkP g s = R := ⟨_, rfl⟩
  rw [hR0]
  have HR0 := Lib.hid hR0
  clear hR0
  have hchk := fun w => check_calls g w
  have hbw : Below w.heap.size w ((w.alloc (.cells #[.int .i64 g.f0, .int .i64 g.f1, .int .i64 g.f2] 23)).alloc (.cells #[.int .i64 s.f0, .int .i64 s.f1, .int .i64 s.f2, .int .i64 s.f3, .slice A s.f4.length c] 28)) := ((Below.refl _ _).alloc (Nat.le_refl _) _).alloc (by simp) _
  have hgb : ((w.alloc (.cells #[.int .i64 g.f0, .int .i64 g.f1, .int .i64 g.f2] 23)).alloc (.cells #[.int .i64 s.f0, .int .i64 s.f1, .int .i64 s.f2, .int .i64 s.f3, .slice A s.f4.length c] 28)).heap[w.heap.size]? = some (.cells #[.int .i64 g.f0, .int .i64 g.f1, .int .i64 g.f2] 23 (0, 0)) := by
    rw [Below.heap_alloc _ _ _ (by simp)]
    exact heap_alloc_new _ _
  have hsb : ((w.alloc (.cells #[.int .i64 g.f0, .int .i64 g.f1, .int .i64 g.f2] 23)).alloc (.cells #[.int .i64 s.f0, .int .i64 s.f1, .int .i64 s.f2, .int .i64 s.f3, .slice A s.f4.length c] 28)).heap[w.heap.size + 1]? = some (.cells #[.int .i64 s.f0, .int .i64 s.f1, .int .i64 s.f2, .int .i64 s.f3, .slice A s.f4.length c] 28 (0, 0)) := by
    have := heap_alloc_new (w.alloc (.cells #[.int .i64 g.f0, .int .i64 g.f1, .int .i64 g.f2] 23)) (.cells #[.int .i64 s.f0, .int .i64 s.f1, .int .i64 s.f2, .int .i64 s.f3, .slice A s.f4.length c] 28)
    simpa using this
  obtain ⟨W0, hW0⟩ : ∃ W0, W0 = (w.alloc (.cells #[.int .i64 g.f0, .int .i64 g.f1, .int .i64 g.f2] 23)).alloc (.cells #[.int .i64 s.f0, .int .i64 s.f1, .int .i64 s.f2, .int .i64 s.f3, .slice A s.f4.length c] 28) := ⟨_, rfl⟩
  rw [← hW0] at hbw hgb hsb
  have HBW := Lib.hid hbw
  have HGB := Lib.hid hgb
  have HSB := Lib.hid hsb
  have HW0 := Lib.hid hW0
  obtain ⟨b1, hb1⟩ : ∃ b, chkG g = b := ⟨_, rfl⟩
  obtain ⟨b2, hb2⟩ : ∃ b, (s.f0 == -1) = b := ⟨_, rfl⟩
  obtain ⟨b3, hb3⟩ : ∃ b, [s.f0].all inB = b := ⟨_, rfl⟩
  obtain ⟨b4, hb4⟩ : ∃ b, [s.f1, s.f2, s.f3].all inB = b := ⟨_, rfl⟩
  obtain ⟨b5, hb5⟩ : ∃ b, decide (s.f1 ≤ wrap64 (s.f3 - s.f2)) = b := ⟨_, rfl⟩
  obtain ⟨b6, hb6⟩ : ∃ b, decide (s.f4.length ≤ 64) = b := ⟨_, rfl⟩
  have hpre : preOk g s = (b1 && ((b2 || b3) && (b4 && (b5 && b6)))) := by
    rw [preOk, hb1, hb2, hb4, hb5, hb6, ← hb3]
    simp
  have d6 : decide ((s.f4.length : Int) ≤ 64) = b6 := by rw [← hb6]; exact decide_eq_decide.2 (by omega)
  have d5 : decide (s.f1 ≤ wrap64 (s.f3 - s.f2)) = b5 := hb5
  have d2 : (s.f0 == -1) = b2 := hb2
  rw [hb1] at hchk
  have hin1 : ∀ (A : Option Addr) (w : World), (Kd.int .i64).C w A 1 [s.f0] → Calls Try.prog 45 #[.slice A 1 1] w fun e w' => e = .returned (.bool ([s.f0].all inB)) ∧ w' = w := fun A w hr => within_calls A 1 [s.f0] w hr (Nat.le_refl _) (by simp)
  have hin3 : ∀ (A : Option Addr) (w : World), (Kd.int .i64).C w A 3 [s.f1, s.f2, s.f3] → Calls Try.prog 45 #[.slice A 3 3] w fun e w' => e = .returned (.bool ([s.f1, s.f2, s.f3].all inB)) ∧ w' = w := fun A w hr => within_calls A 3 [s.f1, s.f2, s.f3] w hr (Nat.le_refl _) (by simp)
  rw [hb3] at hin1
  rw [hb4] at hin3
  have HP := Lib.hid hpre
  have HB4 := Lib.hid hb1
  clear hbw hgb hsb hW0 hb1 hb2 hb3 hb4 hb5 hb6 hpre
  go_enter Try.func21, Try.ntmps21
  go_upto_region 1 with fail
  go_cut [5] from 8 to 47 (fun v5 wc => OK21 g s v5 ∧ Below W0.heap.size W0 wc)
  case first =>
    cases b1 with
    | false =>
      go_wp2_with (first | (go_at_call 44; go_loud ((with_reducible refine (hchk _).mono ?_); rintro e w1 ⟨rfl, hb1⟩; rw [← HW0.out] at hb1)))
      go_meet
      case rel => exact ⟨by unfold OK21; rw [HP.out]; rfl, hb1⟩
    | true =>
      cases b2 with
      | true =>
        cases b4 with
        | false =>
          go_wp2_with (first | (go_at_call 44; go_loud ((with_reducible refine (hchk _).mono ?_); rintro e w1 ⟨rfl, hb1⟩; rw [← HW0.out] at hb1; have q0 := blk_below HSB.out hb1; have q1 : w1.cell? ⟨w.heap.size + 1, 0, none⟩ = some (.int .i64 s.f0) := (blk_cell q0 0).trans rfl; have q2 : w1.cell? ⟨w.heap.size + 1, 1, none⟩ = some (.int .i64 s.f1) := (blk_cell q0 1).trans rfl; have q3 : w1.cell? ⟨w.heap.size + 1, 2, none⟩ = some (.int .i64 s.f2) := (blk_cell q0 2).trans rfl; have q4 : w1.cell? ⟨w.heap.size + 1, 3, none⟩ = some (.int .i64 s.f3) := (blk_cell q0 3).trans rfl; have q5 : w1.cell? ⟨w.heap.size + 1, 4, none⟩ = some (.slice A s.f4.length c) := (blk_cell q0 4).trans rfl; have HB1 := Lib.hid hb1; clear hb1)) | (go_at_call 45; go_loud ((with_reducible refine (hin3 _ _ (ints_C [s.f1, s.f2, s.f3] (by simp) (heap_alloc_new _ _))).mono ?_); rintro e w3 ⟨rfl, rfl⟩; have t1 := below_cell (show Below w1.heap.size w1 (w1.alloc (.cells #[.int .i64 s.f1, .int .i64 s.f2, .int .i64 s.f3] 3)) from (Below.refl _ _).alloc (Nat.le_refl _) _) q1; have t2 := below_cell (show Below w1.heap.size w1 (w1.alloc (.cells #[.int .i64 s.f1, .int .i64 s.f2, .int .i64 s.f3] 3)) from (Below.refl _ _).alloc (Nat.le_refl _) _) q2; have t3 := below_cell (show Below w1.heap.size w1 (w1.alloc (.cells #[.int .i64 s.f1, .int .i64 s.f2, .int .i64 s.f3] 3)) from (Below.refl _ _).alloc (Nat.le_refl _) _) q3; have t4 := below_cell (show Below w1.heap.size w1 (w1.alloc (.cells #[.int .i64 s.f1, .int .i64 s.f2, .int .i64 s.f3] 3)) from (Below.refl _ _).alloc (Nat.le_refl _) _) q4; have t5 := below_cell (show Below w1.heap.size w1 (w1.alloc (.cells #[.int .i64 s.f1, .int .i64 s.f2, .int .i64 s.f3] 3)) from (Below.refl _ _).alloc (Nat.le_refl _) _) q5)))
          go_meet
          case rel => exact ⟨by unfold OK21; rw [HP.out]; rfl, (HB1.out.alloc HB1.out.size _)⟩
        | true =>
          cases b5 with
          | false =>
            go_wp2_with (first | (go_at_call 44; go_loud ((with_reducible refine (hchk _).mono ?_); rintro e w1 ⟨rfl, hb1⟩; rw [← HW0.out] at hb1; have q0 := blk_below HSB.out hb1; have q1 : w1.cell? ⟨w.heap.size + 1, 0, none⟩ = some (.int .i64 s.f0) := (blk_cell q0 0).trans rfl; have q2 : w1.cell? ⟨w.heap.size + 1, 1, none⟩ = some (.int .i64 s.f1) := (blk_cell q0 1).trans rfl; have q3 : w1.cell? ⟨w.heap.size + 1, 2, none⟩ = some (.int .i64 s.f2) := (blk_cell q0 2).trans rfl; have q4 : w1.cell? ⟨w.heap.size + 1, 3, none⟩ = some (.int .i64 s.f3) := (blk_cell q0 3).trans rfl; have q5 : w1.cell? ⟨w.heap.size + 1, 4, none⟩ = some (.slice A s.f4.length c) := (blk_cell q0 4).trans rfl; have HB1 := Lib.hid hb1; clear hb1)) | (go_at_call 45; go_loud ((with_reducible refine (hin3 _ _ (ints_C [s.f1, s.f2, s.f3] (by simp) (heap_alloc_new _ _))).mono ?_); rintro e w3 ⟨rfl, rfl⟩; have t1 := below_cell (show Below w1.heap.size w1 (w1.alloc (.cells #[.int .i64 s.f1, .int .i64 s.f2, .int .i64 s.f3] 3)) from (Below.refl _ _).alloc (Nat.le_refl _) _) q1; have t2 := below_cell (show Below w1.heap.size w1 (w1.alloc (.cells #[.int .i64 s.f1, .int .i64 s.f2, .int .i64 s.f3] 3)) from (Below.refl _ _).alloc (Nat.le_refl _) _) q2; have t3 := below_cell (show Below w1.heap.size w1 (w1.alloc (.cells #[.int .i64 s.f1, .int .i64 s.f2, .int .i64 s.f3] 3)) from (Below.refl _ _).alloc (Nat.le_refl _) _) q3; have t4 := below_cell (show Below w1.heap.size w1 (w1.alloc (.cells #[.int .i64 s.f1, .int .i64 s.f2, .int .i64 s.f3] 3)) from (Below.refl _ _).alloc (Nat.le_refl _) _) q4; have t5 := below_cell (show Below w1.heap.size w1 (w1.alloc (.cells #[.int .i64 s.f1, .int .i64 s.f2, .int .i64 s.f3] 3)) from (Below.refl _ _).alloc (Nat.le_refl _) _) q5)))
            go_meet
            case rel => exact ⟨by unfold OK21; rw [HP.out]; rfl, (HB1.out.alloc HB1.out.size _)⟩
          | true =>
            go_wp2_with (first | (go_at_call 44; go_loud ((with_reducible refine (hchk _).mono ?_); rintro e w1 ⟨rfl, hb1⟩; rw [← HW0.out] at hb1; have q0 := blk_below HSB.out hb1; have q1 : w1.cell? ⟨w.heap.size + 1, 0, none⟩ = some (.int .i64 s.f0) := (blk_cell q0 0).trans rfl; have q2 : w1.cell? ⟨w.heap.size + 1, 1, none⟩ = some (.int .i64 s.f1) := (blk_cell q0 1).trans rfl; have q3 : w1.cell? ⟨w.heap.size + 1, 2, none⟩ = some (.int .i64 s.f2) := (blk_cell q0 2).trans rfl; have q4 : w1.cell? ⟨w.heap.size + 1, 3, none⟩ = some (.int .i64 s.f3) := (blk_cell q0 3).trans rfl; have q5 : w1.cell? ⟨w.heap.size + 1, 4, none⟩ = some (.slice A s.f4.length c) := (blk_cell q0 4).trans rfl; have HB1 := Lib.hid hb1; clear hb1)) | (go_at_call 45; go_loud ((with_reducible refine (hin3 _ _ (ints_C [s.f1, s.f2, s.f3] (by simp) (heap_alloc_new _ _))).mono ?_); rintro e w3 ⟨rfl, rfl⟩; have t1 := below_cell (show Below w1.heap.size w1 (w1.alloc (.cells #[.int .i64 s.f1, .int .i64 s.f2, .int .i64 s.f3] 3)) from (Below.refl _ _).alloc (Nat.le_refl _) _) q1; have t2 := below_cell (show Below w1.heap.size w1 (w1.alloc (.cells #[.int .i64 s.f1, .int .i64 s.f2, .int .i64 s.f3] 3)) from (Below.refl _ _).alloc (Nat.le_refl _) _) q2; have t3 := below_cell (show Below w1.heap.size w1 (w1.alloc (.cells #[.int .i64 s.f1, .int .i64 s.f2, .int .i64 s.f3] 3)) from (Below.refl _ _).alloc (Nat.le_refl _) _) q3; have t4 := below_cell (show Below w1.heap.size w1 (w1.alloc (.cells #[.int .i64 s.f1, .int .i64 s.f2, .int .i64 s.f3] 3)) from (Below.refl _ _).alloc (Nat.le_refl _) _) q4; have t5 := below_cell (show Below w1.heap.size w1 (w1.alloc (.cells #[.int .i64 s.f1, .int .i64 s.f2, .int .i64 s.f3] 3)) from (Below.refl _ _).alloc (Nat.le_refl _) _) q5)))
            go_meet
            case rel => exact ⟨by unfold OK21; rw [HP.out]; rfl, (HB1.out.alloc HB1.out.size _)⟩
      | false =>
        cases b3 with
        | false =>
          go_wp2_with (first | (go_at_call 44; go_loud ((with_reducible refine (hchk _).mono ?_); rintro e w1 ⟨rfl, hb1⟩; rw [← HW0.out] at hb1; have q0 := blk_below HSB.out hb1; have q1 : w1.cell? ⟨w.heap.size + 1, 0, none⟩ = some (.int .i64 s.f0) := (blk_cell q0 0).trans rfl; have q2 : w1.cell? ⟨w.heap.size + 1, 1, none⟩ = some (.int .i64 s.f1) := (blk_cell q0 1).trans rfl; have q3 : w1.cell? ⟨w.heap.size + 1, 2, none⟩ = some (.int .i64 s.f2) := (blk_cell q0 2).trans rfl; have q4 : w1.cell? ⟨w.heap.size + 1, 3, none⟩ = some (.int .i64 s.f3) := (blk_cell q0 3).trans rfl; have q5 : w1.cell? ⟨w.heap.size + 1, 4, none⟩ = some (.slice A s.f4.length c) := (blk_cell q0 4).trans rfl; have HB1 := Lib.hid hb1; clear hb1)) | (go_at_call 45; go_loud ((with_reducible refine (hin1 _ _ (ints_C [s.f0] (by simp) (heap_alloc_new _ _))).mono ?_); rintro e w2 ⟨rfl, rfl⟩; have r1 := below_cell (show Below w1.heap.size w1 (w1.alloc (.cells #[.int .i64 s.f0] 3)) from (Below.refl _ _).alloc (Nat.le_refl _) _) q1; have r2 := below_cell (show Below w1.heap.size w1 (w1.alloc (.cells #[.int .i64 s.f0] 3)) from (Below.refl _ _).alloc (Nat.le_refl _) _) q2; have r3 := below_cell (show Below w1.heap.size w1 (w1.alloc (.cells #[.int .i64 s.f0] 3)) from (Below.refl _ _).alloc (Nat.le_refl _) _) q3; have r4 := below_cell (show Below w1.heap.size w1 (w1.alloc (.cells #[.int .i64 s.f0] 3)) from (Below.refl _ _).alloc (Nat.le_refl _) _) q4; have r5 := below_cell (show Below w1.heap.size w1 (w1.alloc (.cells #[.int .i64 s.f0] 3)) from (Below.refl _ _).alloc (Nat.le_refl _) _) q5)))
          go_meet
          case rel => exact ⟨by unfold OK21; rw [HP.out]; rfl, (HB1.out.alloc HB1.out.size _)⟩
        | true =>
          cases b4 with
          | false =>
            go_wp2_with (first | (go_at_call 44; go_loud ((with_reducible refine (hchk _).mono ?_); rintro e w1 ⟨rfl, hb1⟩; rw [← HW0.out] at hb1; have q0 := blk_below HSB.out hb1; have q1 : w1.cell? ⟨w.heap.size + 1, 0, none⟩ = some (.int .i64 s.f0) := (blk_cell q0 0).trans rfl; have q2 : w1.cell? ⟨w.heap.size + 1, 1, none⟩ = some (.int .i64 s.f1) := (blk_cell q0 1).trans rfl; have q3 : w1.cell? ⟨w.heap.size + 1, 2, none⟩ = some (.int .i64 s.f2) := (blk_cell q0 2).trans rfl; have q4 : w1.cell? ⟨w.heap.size + 1, 3, none⟩ = some (.int .i64 s.f3) := (blk_cell q0 3).trans rfl; have q5 : w1.cell? ⟨w.heap.size + 1, 4, none⟩ = some (.slice A s.f4.length c) := (blk_cell q0 4).trans rfl; have HB1 := Lib.hid hb1; clear hb1)) | (go_at_call 45; (with_reducible refine (hin1 _ _ (ints_C [s.f0] (by simp) (heap_alloc_new _ _))).mono ?_); rintro e w2 ⟨rfl, rfl⟩; have r1 := below_cell (show Below w1.heap.size w1 (w1.alloc (.cells #[.int .i64 s.f0] 3)) from (Below.refl _ _).alloc (Nat.le_refl _) _) q1; have r2 := below_cell (show Below w1.heap.size w1 (w1.alloc (.cells #[.int .i64 s.f0] 3)) from (Below.refl _ _).alloc (Nat.le_refl _) _) q2; have r3 := below_cell (show Below w1.heap.size w1 (w1.alloc (.cells #[.int .i64 s.f0] 3)) from (Below.refl _ _).alloc (Nat.le_refl _) _) q3; have r4 := below_cell (show Below w1.heap.size w1 (w1.alloc (.cells #[.int .i64 s.f0] 3)) from (Below.refl _ _).alloc (Nat.le_refl _) _) q4; have r5 := below_cell (show Below w1.heap.size w1 (w1.alloc (.cells #[.int .i64 s.f0] 3)) from (Below.refl _ _).alloc (Nat.le_refl _) _) q5) | (go_at_call 45; go_loud ((with_reducible refine (hin3 _ _ (ints_C [s.f1, s.f2, s.f3] (by simp) (heap_alloc2_new _ _ _))).mono ?_); rintro e w3 ⟨rfl, rfl⟩; have t1 := below_cell (show Below (w1.alloc (.cells #[.int .i64 s.f0] 3)).heap.size (w1.alloc (.cells #[.int .i64 s.f0] 3)) ((w1.alloc (.cells #[.int .i64 s.f0] 3)).alloc (.cells #[.int .i64 s.f1, .int .i64 s.f2, .int .i64 s.f3] 3)) from (Below.refl _ _).alloc (Nat.le_refl _) _) r1; have t2 := below_cell (show Below (w1.alloc (.cells #[.int .i64 s.f0] 3)).heap.size (w1.alloc (.cells #[.int .i64 s.f0] 3)) ((w1.alloc (.cells #[.int .i64 s.f0] 3)).alloc (.cells #[.int .i64 s.f1, .int .i64 s.f2, .int .i64 s.f3] 3)) from (Below.refl _ _).alloc (Nat.le_refl _) _) r2; have t3 := below_cell (show Below (w1.alloc (.cells #[.int .i64 s.f0] 3)).heap.size (w1.alloc (.cells #[.int .i64 s.f0] 3)) ((w1.alloc (.cells #[.int .i64 s.f0] 3)).alloc (.cells #[.int .i64 s.f1, .int .i64 s.f2, .int .i64 s.f3] 3)) from (Below.refl _ _).alloc (Nat.le_refl _) _) r3; have t4 := below_cell (show Below (w1.alloc (.cells #[.int .i64 s.f0] 3)).heap.size (w1.alloc (.cells #[.int .i64 s.f0] 3)) ((w1.alloc (.cells #[.int .i64 s.f0] 3)).alloc (.cells #[.int .i64 s.f1, .int .i64 s.f2, .int .i64 s.f3] 3)) from (Below.refl _ _).alloc (Nat.le_refl _) _) r4; have t5 := below_cell (show Below (w1.alloc (.cells #[.int .i64 s.f0] 3)).heap.size (w1.alloc (.cells #[.int .i64 s.f0] 3)) ((w1.alloc (.cells #[.int .i64 s.f0] 3)).alloc (.cells #[.int .i64 s.f1, .int .i64 s.f2, .int .i64 s.f3] 3)) from (Below.refl _ _).alloc (Nat.le_refl _) _) r5)))
            go_meet
            case rel => exact ⟨by unfold OK21; rw [HP.out]; rfl, ((HB1.out.alloc HB1.out.size _).alloc (Nat.le_trans HB1.out.size (by simp)) _)⟩
          | true =>
            cases b5 with
            | false =>
              go_wp2_with (first | (go_at_call 44; go_loud ((with_reducible refine (hchk _).mono ?_); rintro e w1 ⟨rfl, hb1⟩; rw [← HW0.out] at hb1; have q0 := blk_below HSB.out hb1; have q1 : w1.cell? ⟨w.heap.size + 1, 0, none⟩ = some (.int .i64 s.f0) := (blk_cell q0 0).trans rfl; have q2 : w1.cell? ⟨w.heap.size + 1, 1, none⟩ = some (.int .i64 s.f1) := (blk_cell q0 1).trans rfl; have q3 : w1.cell? ⟨w.heap.size + 1, 2, none⟩ = some (.int .i64 s.f2) := (blk_cell q0 2).trans rfl; have q4 : w1.cell? ⟨w.heap.size + 1, 3, none⟩ = some (.int .i64 s.f3) := (blk_cell q0 3).trans rfl; have q5 : w1.cell? ⟨w.heap.size + 1, 4, none⟩ = some (.slice A s.f4.length c) := (blk_cell q0 4).trans rfl; have HB1 := Lib.hid hb1; clear hb1)) | (go_at_call 45; (with_reducible refine (hin1 _ _ (ints_C [s.f0] (by simp) (heap_alloc_new _ _))).mono ?_); rintro e w2 ⟨rfl, rfl⟩; have r1 := below_cell (show Below w1.heap.size w1 (w1.alloc (.cells #[.int .i64 s.f0] 3)) from (Below.refl _ _).alloc (Nat.le_refl _) _) q1; have r2 := below_cell (show Below w1.heap.size w1 (w1.alloc (.cells #[.int .i64 s.f0] 3)) from (Below.refl _ _).alloc (Nat.le_refl _) _) q2; have r3 := below_cell (show Below w1.heap.size w1 (w1.alloc (.cells #[.int .i64 s.f0] 3)) from (Below.refl _ _).alloc (Nat.le_refl _) _) q3; have r4 := below_cell (show Below w1.heap.size w1 (w1.alloc (.cells #[.int .i64 s.f0] 3)) from (Below.refl _ _).alloc (Nat.le_refl _) _) q4; have r5 := below_cell (show Below w1.heap.size w1 (w1.alloc (.cells #[.int .i64 s.f0] 3)) from (Below.refl _ _).alloc (Nat.le_refl _) _) q5) | (go_at_call 45; go_loud ((with_reducible refine (hin3 _ _ (ints_C [s.f1, s.f2, s.f3] (by simp) (heap_alloc2_new _ _ _))).mono ?_); rintro e w3 ⟨rfl, rfl⟩; have t1 := below_cell (show Below (w1.alloc (.cells #[.int .i64 s.f0] 3)).heap.size (w1.alloc (.cells #[.int .i64 s.f0] 3)) ((w1.alloc (.cells #[.int .i64 s.f0] 3)).alloc (.cells #[.int .i64 s.f1, .int .i64 s.f2, .int .i64 s.f3] 3)) from (Below.refl _ _).alloc (Nat.le_refl _) _) r1; have t2 := below_cell (show Below (w1.alloc (.cells #[.int .i64 s.f0] 3)).heap.size (w1.alloc (.cells #[.int .i64 s.f0] 3)) ((w1.alloc (.cells #[.int .i64 s.f0] 3)).alloc (.cells #[.int .i64 s.f1, .int .i64 s.f2, .int .i64 s.f3] 3)) from (Below.refl _ _).alloc (Nat.le_refl _) _) r2; have t3 := below_cell (show Below (w1.alloc (.cells #[.int .i64 s.f0] 3)).heap.size (w1.alloc (.cells #[.int .i64 s.f0] 3)) ((w1.alloc (.cells #[.int .i64 s.f0] 3)).alloc (.cells #[.int .i64 s.f1, .int .i64 s.f2, .int .i64 s.f3] 3)) from (Below.refl _ _).alloc (Nat.le_refl _) _) r3; have t4 := below_cell (show Below (w1.alloc (.cells #[.int .i64 s.f0] 3)).heap.size (w1.alloc (.cells #[.int .i64 s.f0] 3)) ((w1.alloc (.cells #[.int .i64 s.f0] 3)).alloc (.cells #[.int .i64 s.f1, .int .i64 s.f2, .int .i64 s.f3] 3)) from (Below.refl _ _).alloc (Nat.le_refl _) _) r4; have t5 := below_cell (show Below (w1.alloc (.cells #[.int .i64 s.f0] 3)).heap.size (w1.alloc (.cells #[.int .i64 s.f0] 3)) ((w1.alloc (.cells #[.int .i64 s.f0] 3)).alloc (.cells #[.int .i64 s.f1, .int .i64 s.f2, .int .i64 s.f3] 3)) from (Below.refl _ _).alloc (Nat.le_refl _) _) r5)))
              go_meet
              case rel => exact ⟨by unfold OK21; rw [HP.out]; rfl, ((HB1.out.alloc HB1.out.size _).alloc (Nat.le_trans HB1.out.size (by simp)) _)⟩
            | true =>
              go_wp2_with (first | (go_at_call 44; go_loud ((with_reducible refine (hchk _).mono ?_); rintro e w1 ⟨rfl, hb1⟩; rw [← HW0.out] at hb1; have q0 := blk_below HSB.out hb1; have q1 : w1.cell? ⟨w.heap.size + 1, 0, none⟩ = some (.int .i64 s.f0) := (blk_cell q0 0).trans rfl; have q2 : w1.cell? ⟨w.heap.size + 1, 1, none⟩ = some (.int .i64 s.f1) := (blk_cell q0 1).trans rfl; have q3 : w1.cell? ⟨w.heap.size + 1, 2, none⟩ = some (.int .i64 s.f2) := (blk_cell q0 2).trans rfl; have q4 : w1.cell? ⟨w.heap.size + 1, 3, none⟩ = some (.int .i64 s.f3) := (blk_cell q0 3).trans rfl; have q5 : w1.cell? ⟨w.heap.size + 1, 4, none⟩ = some (.slice A s.f4.length c) := (blk_cell q0 4).trans rfl; have HB1 := Lib.hid hb1; clear hb1)) | (go_at_call 45; (with_reducible refine (hin1 _ _ (ints_C [s.f0] (by simp) (heap_alloc_new _ _))).mono ?_); rintro e w2 ⟨rfl, rfl⟩; have r1 := below_cell (show Below w1.heap.size w1 (w1.alloc (.cells #[.int .i64 s.f0] 3)) from (Below.refl _ _).alloc (Nat.le_refl _) _) q1; have r2 := below_cell (show Below w1.heap.size w1 (w1.alloc (.cells #[.int .i64 s.f0] 3)) from (Below.refl _ _).alloc (Nat.le_refl _) _) q2; have r3 := below_cell (show Below w1.heap.size w1 (w1.alloc (.cells #[.int .i64 s.f0] 3)) from (Below.refl _ _).alloc (Nat.le_refl _) _) q3; have r4 := below_cell (show Below w1.heap.size w1 (w1.alloc (.cells #[.int .i64 s.f0] 3)) from (Below.refl _ _).alloc (Nat.le_refl _) _) q4; have r5 := below_cell (show Below w1.heap.size w1 (w1.alloc (.cells #[.int .i64 s.f0] 3)) from (Below.refl _ _).alloc (Nat.le_refl _) _) q5) | (go_at_call 45; go_loud ((with_reducible refine (hin3 _ _ (ints_C [s.f1, s.f2, s.f3] (by simp) (heap_alloc2_new _ _ _))).mono ?_); rintro e w3 ⟨rfl, rfl⟩; have t1 := below_cell (show Below (w1.alloc (.cells #[.int .i64 s.f0] 3)).heap.size (w1.alloc (.cells #[.int .i64 s.f0] 3)) ((w1.alloc (.cells #[.int .i64 s.f0] 3)).alloc (.cells #[.int .i64 s.f1, .int .i64 s.f2, .int .i64 s.f3] 3)) from (Below.refl _ _).alloc (Nat.le_refl _) _) r1; have t2 := below_cell (show Below (w1.alloc (.cells #[.int .i64 s.f0] 3)).heap.size (w1.alloc (.cells #[.int .i64 s.f0] 3)) ((w1.alloc (.cells #[.int .i64 s.f0] 3)).alloc (.cells #[.int .i64 s.f1, .int .i64 s.f2, .int .i64 s.f3] 3)) from (Below.refl _ _).alloc (Nat.le_refl _) _) r2; have t3 := below_cell (show Below (w1.alloc (.cells #[.int .i64 s.f0] 3)).heap.size (w1.alloc (.cells #[.int .i64 s.f0] 3)) ((w1.alloc (.cells #[.int .i64 s.f0] 3)).alloc (.cells #[.int .i64 s.f1, .int .i64 s.f2, .int .i64 s.f3] 3)) from (Below.refl _ _).alloc (Nat.le_refl _) _) r3; have t4 := below_cell (show Below (w1.alloc (.cells #[.int .i64 s.f0] 3)).heap.size (w1.alloc (.cells #[.int .i64 s.f0] 3)) ((w1.alloc (.cells #[.int .i64 s.f0] 3)).alloc (.cells #[.int .i64 s.f1, .int .i64 s.f2, .int .i64 s.f3] 3)) from (Below.refl _ _).alloc (Nat.le_refl _) _) r4; have t5 := below_cell (show Below (w1.alloc (.cells #[.int .i64 s.f0] 3)).heap.size (w1.alloc (.cells #[.int .i64 s.f0] 3)) ((w1.alloc (.cells #[.int .i64 s.f0] 3)).alloc (.cells #[.int .i64 s.f1, .int .i64 s.f2, .int .i64 s.f3] 3)) from (Below.refl _ _).alloc (Nat.le_refl _) _) r5)))
              go_meet
              case rel => exact ⟨by unfold OK21; rw [HP.out]; rfl, ((HB1.out.alloc HB1.out.size _).alloc (Nat.le_trans HB1.out.size (by simp)) _)⟩
  case rest =>
    obtain ⟨hv5, hbc⟩ := hcut
    unfold OK21 at hv5
    subst hv5
    clear hchk hin1 hin3 d6 d5 d2 HP
    have hcs := blk_below HSB.out hbc
    have z4 : wc.cell? ⟨w.heap.size + 1, 4, none⟩ = some (.slice A s.f4.length c) := (blk_cell hcs 4).trans rfl
    have hrc := Kd.C_below hr (HBW.out.trans (hbc.mono HBW.out.size))
    have hG : preOk g s = true → chkG g = true := fun h => by unfold preOk at h; simp only [Bool.and_eq_true] at h; exact h.1
    have hR : chkL g s s.f4.length 0 (preOk g s) = R := HR0.out
    revert hG hR
    generalize preOk g s = b0
    intro hG hR
    clear HR0
    have HR := Lib.hid hR
    have HBC := Lib.hid hbc
    have HRC := Lib.hid hrc
    have HG := Lib.hid hG
    clear hR hbc hrc hG hr hcs
    go_wp2
    go_loopg [5, 51] s.f4.length (fun kq v5 v51 wr => ∃ (i : Nat) (b : Bool), v5 = .bool b ∧ v51 = .int .i64 (i : Int) ∧ i ≤ s.f4.length ∧ s.f4.length - i ≤ kq ∧ chkL g s (s.f4.length - i) i b = R ∧ (b = true → chkG g = true) ∧ Below wc.heap.size wc wr)
    case atStart => exact ⟨0, b0, rfl, rfl, Nat.zero_le _, by omega, HR.out, HG.out, Below.refl _ _⟩
    case round =>
      obtain ⟨i, b, rfl, rfl, hil, hik, ho, hg, hbw⟩ := hrel
      clear HR
      by_cases hlt : i < s.f4.length
      rotate_left
      · have d1 : decide ((i : Int) < (s.f4.length : Int)) = false := decide_eq_false (by omega)
        rw [show s.f4.length - i = 0 by omega] at ho
        change b = R at ho
        subst ho
        have HBW2 := Lib.hid (HBW.out.trans ((HBC.out.trans (hbw.mono HBC.out.size)).mono HBW.out.size))
        clear hbw
        cases b with
        | false =>
          go_wp2
          go_ret
          exact ⟨rfl, HBW2.out⟩
        | true =>
          go_wp2
          go_ret
          exact ⟨rfl, HBW2.out⟩
      have d1 : decide ((i : Int) < (s.f4.length : Int)) = true := decide_eq_true (by omega)
      rw [show s.f4.length - i = (s.f4.length - (i + 1)) + 1 by omega, chkL] at ho
      have hrw := Kd.C_below HRC.out hbw
      obtain ⟨ad, rfl, x0, x1, x2, x3, x4, x5, x6, x7, x8, x9, x10, x11⟩ := at_T46 hrw (i : Int) (by omega) (by omega)
      rw [Int.toNat_natCast] at x0 x1 x2 x3 x4 x5 x6 x7 x8 x9 x10 x11
      obtain ⟨x, hx⟩ : ∃ x, rd_T46 s.f4 (i : Int) = x := ⟨_, rfl⟩
      rw [hx] at x0 x1 x2 x3 x4 x5 x6 x7 x8 x9 x10 x11
      cases gk with
      | zero => omega
      | succ gk =>
      cases b with
      | false =>
        rw [if_neg (by decide)] at ho
        subst ho
        have HBW2 := Lib.hid (HBW.out.trans ((HBC.out.trans (hbw.mono HBC.out.size)).mono HBW.out.size))
        have hbsz := hbw.size
        have hbl : Below wr.heap.size wr (wr.alloc (.cells #[.int .i64 x.f0, .int .i64 x.f1, .int .i64 x.f2.f0, .int .i64 x.f2.f1, .int .i64 x.f2.f2, .int .i64 x.f2.f3, .int .i64 x.f2.f4.f0, .int .i64 x.f2.f4.f1, .int .i64 x.f2.f4.f2, .int .i64 x.f2.f4.f3, .int .i64 x.f2.f5, .int .i64 x.f2.f6] 46)) := (Below.refl _ _).alloc (Nat.le_refl _) _
        have HBL := Lib.hid hbl
        clear hbw hbl
        go_wp2
        go_ret
        exact ⟨rfl, HBW2.out.trans (HBL.out.mono (Nat.le_trans HBW.out.size (Nat.le_trans HBC.out.size hbsz)))⟩
      | true =>
        rw [if_pos rfl] at ho
        have hg1 : 1 ≤ g.f1 := by
          have := hg rfl
          unfold chkG at this
          have := of_decide_eq_true this
          omega
        have hgt := hg rfl
        have dz : (g.f1 == 0) = false := beq_eq_false_iff_ne.2 (by omega)
        have dz0 : ¬ g.f1 = 0 := by omega
        obtain ⟨WX, hWX⟩ : ∃ WX, WX = wr.alloc (.cells #[.int .i64 x.f0, .int .i64 x.f1, .int .i64 x.f2.f0, .int .i64 x.f2.f1, .int .i64 x.f2.f2, .int .i64 x.f2.f3, .int .i64 x.f2.f4.f0, .int .i64 x.f2.f4.f1, .int .i64 x.f2.f4.f2, .int .i64 x.f2.f4.f3, .int .i64 x.f2.f5, .int .i64 x.f2.f6] 46) := ⟨_, rfl⟩
        have hbx : WX.heap[wr.heap.size]? = some (.cells #[.int .i64 x.f0, .int .i64 x.f1, .int .i64 x.f2.f0, .int .i64 x.f2.f1, .int .i64 x.f2.f2, .int .i64 x.f2.f3, .int .i64 x.f2.f4.f0, .int .i64 x.f2.f4.f1, .int .i64 x.f2.f4.f2, .int .i64 x.f2.f4.f3, .int .i64 x.f2.f5, .int .i64 x.f2.f6] 46 (0, 0)) := by rw [hWX]; exact heap_alloc_new _ _
        have hbX : Below wr.heap.size wr WX := by rw [hWX]; exact (Below.refl _ _).alloc (Nat.le_refl _) _
        have hbW : Below W0.heap.size W0 WX := (HBC.out.trans (hbw.mono HBC.out.size)).trans (hbX.mono (Nat.le_trans HBC.out.size hbw.size))
        have hgX := blk_below HGB.out hbW
        have hsX := blk_below HSB.out hbW
        have G0 : Hid (WX.cell? ⟨w.heap.size, 0, none⟩ = some (.int .i64 g.f0)) := Lib.hid ((blk_cell hgX 0).trans rfl)
        have G1 : Hid (WX.cell? ⟨w.heap.size, 1, none⟩ = some (.int .i64 g.f1)) := Lib.hid ((blk_cell hgX 1).trans rfl)
        have G2 : Hid (WX.cell? ⟨w.heap.size, 2, none⟩ = some (.int .i64 g.f2)) := Lib.hid ((blk_cell hgX 2).trans rfl)
        have S0 : Hid (WX.cell? ⟨w.heap.size + 1, 0, none⟩ = some (.int .i64 s.f0)) := Lib.hid ((blk_cell hsX 0).trans rfl)
        have S4 : Hid (WX.cell? ⟨w.heap.size + 1, 4, none⟩ = some (.slice (some ad) s.f4.length c)) := Lib.hid ((blk_cell hsX 4).trans rfl)
        have X0 : Hid (WX.cell? ⟨wr.heap.size, 0, none⟩ = some (.int .i64 x.f0)) := Lib.hid ((blk_cell hbx 0).trans rfl)
        have X1 : Hid (WX.cell? ⟨wr.heap.size, 1, none⟩ = some (.int .i64 x.f1)) := Lib.hid ((blk_cell hbx 1).trans rfl)
        have X2 : Hid (WX.cell? ⟨wr.heap.size, 2, none⟩ = some (.int .i64 x.f2.f0)) := Lib.hid ((blk_cell hbx 2).trans rfl)
        have X3 : Hid (WX.cell? ⟨wr.heap.size, 3, none⟩ = some (.int .i64 x.f2.f1)) := Lib.hid ((blk_cell hbx 3).trans rfl)
        have X4 : Hid (WX.cell? ⟨wr.heap.size, 4, none⟩ = some (.int .i64 x.f2.f2)) := Lib.hid ((blk_cell hbx 4).trans rfl)
        have X5 : Hid (WX.cell? ⟨wr.heap.size, 5, none⟩ = some (.int .i64 x.f2.f3)) := Lib.hid ((blk_cell hbx 5).trans rfl)
        have X6 : Hid (WX.cell? ⟨wr.heap.size, 6, none⟩ = some (.int .i64 x.f2.f4.f0)) := Lib.hid ((blk_cell hbx 6).trans rfl)
        have X7 : Hid (WX.cell? ⟨wr.heap.size, 7, none⟩ = some (.int .i64 x.f2.f4.f1)) := Lib.hid ((blk_cell hbx 7).trans rfl)
        have X8 : Hid (WX.cell? ⟨wr.heap.size, 8, none⟩ = some (.int .i64 x.f2.f4.f2)) := Lib.hid ((blk_cell hbx 8).trans rfl)
        have X9 : Hid (WX.cell? ⟨wr.heap.size, 9, none⟩ = some (.int .i64 x.f2.f4.f3)) := Lib.hid ((blk_cell hbx 9).trans rfl)
        have X10 : Hid (WX.cell? ⟨wr.heap.size, 10, none⟩ = some (.int .i64 x.f2.f5)) := Lib.hid ((blk_cell hbx 10).trans rfl)
        have X11 : Hid (WX.cell? ⟨wr.heap.size, 11, none⟩ = some (.int .i64 x.f2.f6)) := Lib.hid ((blk_cell hbx 11).trans rfl)
        have hrX := Kd.C_below hrw hbX
        obtain ⟨y, hy⟩ : ∃ y, rd_T46 s.f4 ((i : Int) - 1) = y := ⟨_, rfl⟩
        obtain ⟨b1, hb1⟩ : ∃ b, [x.f0, x.f1].all inB = b := ⟨_, rfl⟩
        obtain ⟨b2, d2⟩ : ∃ b, decide (x.f0 ≤ 1048576) = b := ⟨_, rfl⟩
        obtain ⟨b3, hb3⟩ : ∃ b, decide (Int.tmod x.f1 g.f1 = 0) = b := ⟨_, rfl⟩
        obtain ⟨b4, d4⟩ : ∃ b, decide (x.f1 ≤ s.f0) = b := ⟨_, rfl⟩
        obtain ⟨b5, hb5⟩ : ∃ b, closedP g x.f1 s.f0 = b := ⟨_, rfl⟩
        obtain ⟨b6, hb6⟩ : ∃ b, aggOk x.f2 = b := ⟨_, rfl⟩
        obtain ⟨b7, d7⟩ : ∃ b, ((i : Int) == 0) = b := ⟨_, rfl⟩
        obtain ⟨b8, hb8⟩ : ∃ b, decide (ordP y x < 0) = b := ⟨_, rfl⟩
        have hok : okAt g s i = (b1 && (b2 && (b3 && (b4 && (!b5 && (b6 && (b7 || b8))))))) := by
          unfold okAt
          simp only []
          rw [hx, hy, hb1, d2, hb3, d4, hb5, hb6, d7, hb8]
        rw [hok] at ho
        have d3 : (Int.tmod x.f1 g.f1 == 0) = b3 := by rw [← hb3]; rfl
        have hin2 : ∀ (A : Option Addr) (w : World), (Kd.int .i64).C w A 2 [x.f0, x.f1] → Calls Try.prog 45 #[.slice A 2 2] w fun e w' => e = .returned (.bool ([x.f0, x.f1].all inB)) ∧ w' = w := fun A w hr => within_calls A 2 [x.f0, x.f1] w hr (Nat.le_refl _) (by simp)
        have hcl := fun w => closed_calls g x.f1 s.f0 w
        have hag := fun w => aggCheck_calls x.f2 w
        have hor := fun w => order_calls y x w
        rw [hb1] at hin2
        rw [hb5] at hcl
        rw [hb6] at hag
        obtain ⟨o8, ho8⟩ : ∃ o, ordP y x = o := ⟨_, rfl⟩
        rw [ho8] at hor hb8
        replace hin2 := Lib.hid hin2
        replace hcl := Lib.hid hcl
        replace hag := Lib.hid hag
        replace hor := Lib.hid hor
        have HO := Lib.hid ho
        have HWX := Lib.hid hWX
        have HBX := Lib.hid hbX
        have HRX := Lib.hid hrX
        have HY := Lib.hid hy
        have HT := Lib.hid hgt
        have HU := Lib.hid hbw
        clear ho hWX hbX hrX hrw hbw hx hy hb1 hb3 hb5 hb6 hok hgt ho8 hgX hsX hbx hbW hg
        go_wp2
        rw [← HWX.out]
        clear x0 x1 x2 x3 x4 x5 x6 x7 x8 x9 x10 x11 z4 d1
        refine wp_region_held_drew (S := fun w_ => Below WX.heap.size WX w_) (by kernel_rfl) (below_drew (Below.refl _ _)) (fun hS_ => ?_)
        have hS : Below WX.heap.size WX _ := hS_
        clear hS_
        change wpAnyH _ _ _ _ _ 57 (lsA 57 0) _ _
        refine takeE 0 (some 58) (lsA 57 1) hS ?_
        refine takeE 1 (some 59) (lsA 57 2) hS ?_ (hy := fun w_ hS_ => by (replace hS_ : Below WX.heap.size WX w_ := hS_); have X0_ := below_cell hS_ X0.out; go_simp <;> with_reducible rfl)
        refine takeE 2 (some 60) (lsA 57 3) hS ?_
        refine takeE 3 (some 61) (lsA 57 4) hS ?_ (hy := fun w_ hS_ => by (replace hS_ : Below WX.heap.size WX w_ := hS_); have X1_ := below_cell hS_ X1.out; go_simp <;> with_reducible rfl)
        refine doD (i := 4) (ls2 := (lsA 57 5)) (by kernel_rfl) rfl (by kernel_rfl) (by kernel_rfl) (fun K hK => ?_)
        go_simp
        refine hK.out _ _ ?_ (fun hS_ => ?_)
        · show Below WX.heap.size WX _
          exact hS.alloc hS.size _
        clear hK K hS
        have hS : Below WX.heap.size WX _ := hS_
        clear hS_
        refine doD (i := 5) (ls2 := (lsA 57 6)) (by kernel_rfl) rfl (by kernel_rfl) (by kernel_rfl) (fun K hK => ?_)
        go_simp
        go_wp2_with (first | (go_at_call 45; go_loud ((with_reducible refine (hin2.out _ _ (ints_C [x.f0, x.f1] (by simp) (heap_alloc_new _ _))).mono ?_); rintro e w2 ⟨rfl, rfl⟩)))
        refine hK.out _ _ ?_ (fun hS_ => ?_)
        · show Below WX.heap.size WX _
          exact hS
        clear hK K hS
        have hS : Below WX.heap.size WX _ := hS_
        clear hS_
        refine takeE 6 (some 64) (lsA 57 7) hS ?_
        cases b1 with
        | false =>
          refine offE 7 (some 65) (lsA 57 8) hS ?_
          refine offE 8 (some 66) (lsA 57 9) hS ?_
          refine offE 9 (some 67) (lsA 57 10) hS ?_
          refine takeE 10 (some 68) (lsA 57 11) hS ?_
          refine takeE 11 (some 69) (lsA 57 12) hS ?_
          refine offE 12 (some 70) (lsA 57 13) hS ?_
          refine offE 13 (some 71) (lsA 57 14) hS ?_
          refine offE 14 (some 72) (lsA 57 15) hS ?_
          refine offE 15 (some 73) (lsA 57 16) hS ?_
          refine offE 16 (some 74) (lsA 57 17) hS ?_
          refine offE 17 (some 75) (lsA 57 18) hS ?_
          refine takeE 18 (some 76) (lsA 57 19) hS ?_
          refine takeE 19 (some 77) (lsA 57 20) hS ?_
          refine offE 20 (some 78) (lsA 57 21) hS ?_
          refine offE 21 (some 79) (lsA 57 22) hS ?_
          refine offE 22 (some 80) (lsA 57 23) hS ?_
          refine offE 23 (some 81) (lsA 57 24) hS ?_
          refine offE 24 (some 82) (lsA 57 25) hS ?_
          refine takeE 25 (some 83) (lsA 57 26) hS ?_
          refine takeE 26 (some 84) (lsA 57 27) hS ?_
          refine offE 27 (some 85) (lsA 57 28) hS ?_
          refine offE 28 (some 86) (lsA 57 29) hS ?_
          refine offE 29 (some 87) (lsA 57 30) hS ?_
          refine offE 30 (some 88) (lsA 57 31) hS ?_
          refine offE 31 (some 89) (lsA 57 32) hS ?_
          refine offE 32 (some 90) (lsA 57 33) hS ?_
          refine offE 33 (some 91) (lsA 57 34) hS ?_
          refine takeE 34 (some 92) (lsA 57 35) hS ?_
          refine takeE 35 (some 93) (lsA 57 36) hS ?_
          refine offE 36 (some 94) (lsA 57 37) hS ?_
          refine offE 37 (some 95) (lsA 57 38) hS ?_
          refine offE 38 (some 96) (lsA 57 39) hS ?_
          refine offE 39 (some 97) (lsA 57 40) hS ?_
          refine takeE 40 (some 98) (lsA 57 41) hS ?_
          refine takeE 41 (some 99) (lsA 57 42) hS ?_
          refine offE 42 (some 100) (lsA 57 43) hS ?_
          refine offE 43 (some 101) (lsA 57 44) hS ?_
          refine offE 44 (some 102) (lsA 57 45) hS ?_
          refine offE 45 (some 103) (lsA 57 46) hS ?_
          refine offE 46 (some 104) (lsA 57 47) hS ?_
          refine offE 47 (some 105) (lsA 57 48) hS ?_
          refine offE 48 (some 106) (lsA 57 49) hS ?_
          refine offE 49 (some 107) (lsA 57 50) hS ?_
          refine offE 50 (some 108) (lsA 57 51) hS ?_
          refine offE 51 (some 109) (lsA 57 52) hS ?_
          refine offE 52 (some 110) (lsA 57 53) hS ?_
          refine offE 53 (some 111) (lsA 57 54) hS ?_
          refine offE 54 (some 112) (lsA 57 55) hS ?_
          refine takeE 55 (some 113) (lsA 57 56) hS ?_
          refine takeE 56 (some 5) (lsA 57 57) hS ?_
          refine wpAnyH_done (by kernel_rfl) ?_ _
          try go_simp
          go_wp2
          go_roundg gk
          case measure => omega
          case rel =>
            have hu := HU.out
            have hs := hS
            refine ⟨i + 1, _, rfl, by first | rfl | (congr 1), by omega, by omega, HO.out, fun _ => HT.out, hu.trans ((HBX.out.trans (hs.mono HBX.out.size)).mono hu.size)⟩
        | true =>
          refine takeE 7 (some 65) (lsA 57 8) hS ?_
          refine takeE 8 (some 66) (lsA 57 9) hS ?_ (hy := fun w_ hS_ => by (replace hS_ : Below WX.heap.size WX w_ := hS_); have X0_ := below_cell hS_ X0.out; go_simp <;> with_reducible rfl)
          refine takeE 9 (some 67) (lsA 57 10) hS ?_
          refine takeE 10 (some 68) (lsA 57 11) hS ?_
          refine takeE 11 (some 69) (lsA 57 12) hS ?_
          cases b2 with
          | false =>
            refine offE 12 (some 70) (lsA 57 13) hS ?_
            refine offE 13 (some 71) (lsA 57 14) hS ?_
            refine offE 14 (some 72) (lsA 57 15) hS ?_
            refine offE 15 (some 73) (lsA 57 16) hS ?_
            refine offE 16 (some 74) (lsA 57 17) hS ?_
            refine offE 17 (some 75) (lsA 57 18) hS ?_
            refine takeE 18 (some 76) (lsA 57 19) hS ?_
            refine takeE 19 (some 77) (lsA 57 20) hS ?_
            refine offE 20 (some 78) (lsA 57 21) hS ?_
            refine offE 21 (some 79) (lsA 57 22) hS ?_
            refine offE 22 (some 80) (lsA 57 23) hS ?_
            refine offE 23 (some 81) (lsA 57 24) hS ?_
            refine offE 24 (some 82) (lsA 57 25) hS ?_
            refine takeE 25 (some 83) (lsA 57 26) hS ?_
            refine takeE 26 (some 84) (lsA 57 27) hS ?_
            refine offE 27 (some 85) (lsA 57 28) hS ?_
            refine offE 28 (some 86) (lsA 57 29) hS ?_
            refine offE 29 (some 87) (lsA 57 30) hS ?_
            refine offE 30 (some 88) (lsA 57 31) hS ?_
            refine offE 31 (some 89) (lsA 57 32) hS ?_
            refine offE 32 (some 90) (lsA 57 33) hS ?_
            refine offE 33 (some 91) (lsA 57 34) hS ?_
            refine takeE 34 (some 92) (lsA 57 35) hS ?_
            refine takeE 35 (some 93) (lsA 57 36) hS ?_
            refine offE 36 (some 94) (lsA 57 37) hS ?_
            refine offE 37 (some 95) (lsA 57 38) hS ?_
            refine offE 38 (some 96) (lsA 57 39) hS ?_
            refine offE 39 (some 97) (lsA 57 40) hS ?_
            refine takeE 40 (some 98) (lsA 57 41) hS ?_
            refine takeE 41 (some 99) (lsA 57 42) hS ?_
            refine offE 42 (some 100) (lsA 57 43) hS ?_
            refine offE 43 (some 101) (lsA 57 44) hS ?_
            refine offE 44 (some 102) (lsA 57 45) hS ?_
            refine offE 45 (some 103) (lsA 57 46) hS ?_
            refine offE 46 (some 104) (lsA 57 47) hS ?_
            refine offE 47 (some 105) (lsA 57 48) hS ?_
            refine offE 48 (some 106) (lsA 57 49) hS ?_
            refine offE 49 (some 107) (lsA 57 50) hS ?_
            refine offE 50 (some 108) (lsA 57 51) hS ?_
            refine offE 51 (some 109) (lsA 57 52) hS ?_
            refine offE 52 (some 110) (lsA 57 53) hS ?_
            refine offE 53 (some 111) (lsA 57 54) hS ?_
            refine offE 54 (some 112) (lsA 57 55) hS ?_
            refine takeE 55 (some 113) (lsA 57 56) hS ?_
            refine takeE 56 (some 5) (lsA 57 57) hS ?_
            refine wpAnyH_done (by kernel_rfl) ?_ _
            try go_simp
            go_wp2
            go_roundg gk
            case measure => omega
            case rel =>
              have hu := HU.out
              have hs := hS
              refine ⟨i + 1, _, rfl, by first | rfl | (congr 1), by omega, by omega, HO.out, fun _ => HT.out, hu.trans ((HBX.out.trans (hs.mono HBX.out.size)).mono hu.size)⟩
          | true =>
            refine takeE 12 (some 70) (lsA 57 13) hS ?_
            refine takeE 13 (some 71) (lsA 57 14) hS ?_ (hy := fun w_ hS_ => by (replace hS_ : Below WX.heap.size WX w_ := hS_); have X1_ := below_cell hS_ X1.out; go_simp <;> with_reducible rfl)
            refine takeE 14 (some 72) (lsA 57 15) hS ?_
            refine takeE 15 (some 73) (lsA 57 16) hS ?_ (hy := fun w_ hS_ => by (replace hS_ : Below WX.heap.size WX w_ := hS_); have G1_ := below_cell hS_ G1.out; go_simp <;> with_reducible rfl)
            refine takeE 16 (some 74) (lsA 57 17) hS ?_
            refine takeE 17 (some 75) (lsA 57 18) hS ?_
            refine takeE 18 (some 76) (lsA 57 19) hS ?_
            refine takeE 19 (some 77) (lsA 57 20) hS ?_
            cases b3 with
            | false =>
              refine offE 20 (some 78) (lsA 57 21) hS ?_
              refine offE 21 (some 79) (lsA 57 22) hS ?_
              refine offE 22 (some 80) (lsA 57 23) hS ?_
              refine offE 23 (some 81) (lsA 57 24) hS ?_
              refine offE 24 (some 82) (lsA 57 25) hS ?_
              refine takeE 25 (some 83) (lsA 57 26) hS ?_
              refine takeE 26 (some 84) (lsA 57 27) hS ?_
              refine offE 27 (some 85) (lsA 57 28) hS ?_
              refine offE 28 (some 86) (lsA 57 29) hS ?_
              refine offE 29 (some 87) (lsA 57 30) hS ?_
              refine offE 30 (some 88) (lsA 57 31) hS ?_
              refine offE 31 (some 89) (lsA 57 32) hS ?_
              refine offE 32 (some 90) (lsA 57 33) hS ?_
              refine offE 33 (some 91) (lsA 57 34) hS ?_
              refine takeE 34 (some 92) (lsA 57 35) hS ?_
              refine takeE 35 (some 93) (lsA 57 36) hS ?_
              refine offE 36 (some 94) (lsA 57 37) hS ?_
              refine offE 37 (some 95) (lsA 57 38) hS ?_
              refine offE 38 (some 96) (lsA 57 39) hS ?_
              refine offE 39 (some 97) (lsA 57 40) hS ?_
              refine takeE 40 (some 98) (lsA 57 41) hS ?_
              refine takeE 41 (some 99) (lsA 57 42) hS ?_
              refine offE 42 (some 100) (lsA 57 43) hS ?_
              refine offE 43 (some 101) (lsA 57 44) hS ?_
              refine offE 44 (some 102) (lsA 57 45) hS ?_
              refine offE 45 (some 103) (lsA 57 46) hS ?_
              refine offE 46 (some 104) (lsA 57 47) hS ?_
              refine offE 47 (some 105) (lsA 57 48) hS ?_
              refine offE 48 (some 106) (lsA 57 49) hS ?_
              refine offE 49 (some 107) (lsA 57 50) hS ?_
              refine offE 50 (some 108) (lsA 57 51) hS ?_
              refine offE 51 (some 109) (lsA 57 52) hS ?_
              refine offE 52 (some 110) (lsA 57 53) hS ?_
              refine offE 53 (some 111) (lsA 57 54) hS ?_
              refine offE 54 (some 112) (lsA 57 55) hS ?_
              refine takeE 55 (some 113) (lsA 57 56) hS ?_
              refine takeE 56 (some 5) (lsA 57 57) hS ?_
              refine wpAnyH_done (by kernel_rfl) ?_ _
              try go_simp
              go_wp2
              go_roundg gk
              case measure => omega
              case rel =>
                have hu := HU.out
                have hs := hS
                refine ⟨i + 1, _, rfl, by first | rfl | (congr 1), by omega, by omega, HO.out, fun _ => HT.out, hu.trans ((HBX.out.trans (hs.mono HBX.out.size)).mono hu.size)⟩
            | true =>
              refine takeE 20 (some 78) (lsA 57 21) hS ?_
              refine takeE 21 (some 79) (lsA 57 22) hS ?_ (hy := fun w_ hS_ => by (replace hS_ : Below WX.heap.size WX w_ := hS_); have X1_ := below_cell hS_ X1.out; go_simp <;> with_reducible rfl)
              refine takeE 22 (some 80) (lsA 57 23) hS ?_
              refine takeE 23 (some 81) (lsA 57 24) hS ?_ (hy := fun w_ hS_ => by (replace hS_ : Below WX.heap.size WX w_ := hS_); have S0_ := below_cell hS_ S0.out; go_simp <;> with_reducible rfl)
              refine takeE 24 (some 82) (lsA 57 25) hS ?_
              refine takeE 25 (some 83) (lsA 57 26) hS ?_
              refine takeE 26 (some 84) (lsA 57 27) hS ?_
              cases b4 with
              | false =>
                refine offE 27 (some 85) (lsA 57 28) hS ?_
                refine offE 28 (some 86) (lsA 57 29) hS ?_
                refine offE 29 (some 87) (lsA 57 30) hS ?_
                refine offE 30 (some 88) (lsA 57 31) hS ?_
                refine offE 31 (some 89) (lsA 57 32) hS ?_
                refine offE 32 (some 90) (lsA 57 33) hS ?_
                refine offE 33 (some 91) (lsA 57 34) hS ?_
                refine takeE 34 (some 92) (lsA 57 35) hS ?_
                refine takeE 35 (some 93) (lsA 57 36) hS ?_
                refine offE 36 (some 94) (lsA 57 37) hS ?_
                refine offE 37 (some 95) (lsA 57 38) hS ?_
                refine offE 38 (some 96) (lsA 57 39) hS ?_
                refine offE 39 (some 97) (lsA 57 40) hS ?_
                refine takeE 40 (some 98) (lsA 57 41) hS ?_
                refine takeE 41 (some 99) (lsA 57 42) hS ?_
                refine offE 42 (some 100) (lsA 57 43) hS ?_
                refine offE 43 (some 101) (lsA 57 44) hS ?_
                refine offE 44 (some 102) (lsA 57 45) hS ?_
                refine offE 45 (some 103) (lsA 57 46) hS ?_
                refine offE 46 (some 104) (lsA 57 47) hS ?_
                refine offE 47 (some 105) (lsA 57 48) hS ?_
                refine offE 48 (some 106) (lsA 57 49) hS ?_
                refine offE 49 (some 107) (lsA 57 50) hS ?_
                refine offE 50 (some 108) (lsA 57 51) hS ?_
                refine offE 51 (some 109) (lsA 57 52) hS ?_
                refine offE 52 (some 110) (lsA 57 53) hS ?_
                refine offE 53 (some 111) (lsA 57 54) hS ?_
                refine offE 54 (some 112) (lsA 57 55) hS ?_
                refine takeE 55 (some 113) (lsA 57 56) hS ?_
                refine takeE 56 (some 5) (lsA 57 57) hS ?_
                refine wpAnyH_done (by kernel_rfl) ?_ _
                try go_simp
                go_wp2
                go_roundg gk
                case measure => omega
                case rel =>
                  have hu := HU.out
                  have hs := hS
                  refine ⟨i + 1, _, rfl, by first | rfl | (congr 1), by omega, by omega, HO.out, fun _ => HT.out, hu.trans ((HBX.out.trans (hs.mono HBX.out.size)).mono hu.size)⟩
              | true =>
                refine takeE 27 (some 85) (lsA 57 28) hS ?_ (hy := fun w_ hS_ => by (replace hS_ : Below WX.heap.size WX w_ := hS_); have G0_ := below_cell hS_ G0.out; have G1_ := below_cell hS_ G1.out; have G2_ := below_cell hS_ G2.out; go_simp <;> with_reducible rfl)
                refine takeE 28 (some 86) (lsA 57 29) hS ?_
                refine takeE 29 (some 87) (lsA 57 30) hS ?_ (hy := fun w_ hS_ => by (replace hS_ : Below WX.heap.size WX w_ := hS_); have X1_ := below_cell hS_ X1.out; go_simp <;> with_reducible rfl)
                refine takeE 30 (some 88) (lsA 57 31) hS ?_
                refine takeE 31 (some 89) (lsA 57 32) hS ?_ (hy := fun w_ hS_ => by (replace hS_ : Below WX.heap.size WX w_ := hS_); have S0_ := below_cell hS_ S0.out; go_simp <;> with_reducible rfl)
                refine doD (i := 32) (ls2 := (lsA 57 33)) (by kernel_rfl) rfl (by kernel_rfl) (by kernel_rfl) (fun K hK => ?_)
                go_simp
                go_wp2_with (first | (go_at_call 46; go_loud ((with_reducible refine (hcl.out _).mono ?_); rintro e w3 ⟨rfl, hb3⟩)))
                refine hK.out _ _ ?_ (fun hS_ => ?_)
                · show Below WX.heap.size WX _
                  exact hS.trans (hb3.mono hS.size)
                clear hK K hS
                have hS : Below WX.heap.size WX _ := hS_
                clear hS_
                refine takeE 33 (some 91) (lsA 57 34) hS ?_
                refine takeE 34 (some 92) (lsA 57 35) hS ?_
                refine takeE 35 (some 93) (lsA 57 36) hS ?_
                cases b5 with
                | true =>
                  refine offE 36 (some 94) (lsA 57 37) hS ?_
                  refine offE 37 (some 95) (lsA 57 38) hS ?_
                  refine offE 38 (some 96) (lsA 57 39) hS ?_
                  refine offE 39 (some 97) (lsA 57 40) hS ?_
                  refine takeE 40 (some 98) (lsA 57 41) hS ?_
                  refine takeE 41 (some 99) (lsA 57 42) hS ?_
                  refine offE 42 (some 100) (lsA 57 43) hS ?_
                  refine offE 43 (some 101) (lsA 57 44) hS ?_
                  refine offE 44 (some 102) (lsA 57 45) hS ?_
                  refine offE 45 (some 103) (lsA 57 46) hS ?_
                  refine offE 46 (some 104) (lsA 57 47) hS ?_
                  refine offE 47 (some 105) (lsA 57 48) hS ?_
                  refine offE 48 (some 106) (lsA 57 49) hS ?_
                  refine offE 49 (some 107) (lsA 57 50) hS ?_
                  refine offE 50 (some 108) (lsA 57 51) hS ?_
                  refine offE 51 (some 109) (lsA 57 52) hS ?_
                  refine offE 52 (some 110) (lsA 57 53) hS ?_
                  refine offE 53 (some 111) (lsA 57 54) hS ?_
                  refine offE 54 (some 112) (lsA 57 55) hS ?_
                  refine takeE 55 (some 113) (lsA 57 56) hS ?_
                  refine takeE 56 (some 5) (lsA 57 57) hS ?_
                  refine wpAnyH_done (by kernel_rfl) ?_ _
                  try go_simp
                  go_wp2
                  go_roundg gk
                  case measure => omega
                  case rel =>
                    have hu := HU.out
                    have hs := hS
                    refine ⟨i + 1, _, rfl, by first | rfl | (congr 1), by omega, by omega, HO.out, fun _ => HT.out, hu.trans ((HBX.out.trans (hs.mono HBX.out.size)).mono hu.size)⟩
                | false =>
                  refine takeE 36 (some 94) (lsA 57 37) hS ?_
                  refine takeE 37 (some 95) (lsA 57 38) hS ?_ (hy := fun w_ hS_ => by (replace hS_ : Below WX.heap.size WX w_ := hS_); have X2_ := below_cell hS_ X2.out; have X3_ := below_cell hS_ X3.out; have X4_ := below_cell hS_ X4.out; have X5_ := below_cell hS_ X5.out; have X6_ := below_cell hS_ X6.out; have X7_ := below_cell hS_ X7.out; have X8_ := below_cell hS_ X8.out; have X9_ := below_cell hS_ X9.out; have X10_ := below_cell hS_ X10.out; have X11_ := below_cell hS_ X11.out; go_simp <;> with_reducible rfl)
                  refine doD (i := 38) (ls2 := (lsA 57 39)) (by kernel_rfl) rfl (by kernel_rfl) (by kernel_rfl) (fun K hK => ?_)
                  go_simp
                  go_wp2_with (first | (go_at_call 47; go_loud ((with_reducible refine (hag.out _).mono ?_); rintro e w4 ⟨rfl, hb4⟩)))
                  refine hK.out _ _ ?_ (fun hS_ => ?_)
                  · show Below WX.heap.size WX _
                    exact hS.trans (hb4.mono hS.size)
                  clear hK K hS
                  have hS : Below WX.heap.size WX _ := hS_
                  clear hS_
                  cases b6 with
                  | false =>
                    refine takeE 39 (some 97) (lsA 57 40) hS ?_
                    refine takeE 40 (some 98) (lsA 57 41) hS ?_
                    refine takeE 41 (some 99) (lsA 57 42) hS ?_
                    refine offE 42 (some 100) (lsA 57 43) hS ?_
                    refine offE 43 (some 101) (lsA 57 44) hS ?_
                    refine offE 44 (some 102) (lsA 57 45) hS ?_
                    refine offE 45 (some 103) (lsA 57 46) hS ?_
                    refine offE 46 (some 104) (lsA 57 47) hS ?_
                    refine offE 47 (some 105) (lsA 57 48) hS ?_
                    refine offE 48 (some 106) (lsA 57 49) hS ?_
                    refine offE 49 (some 107) (lsA 57 50) hS ?_
                    refine offE 50 (some 108) (lsA 57 51) hS ?_
                    refine offE 51 (some 109) (lsA 57 52) hS ?_
                    refine offE 52 (some 110) (lsA 57 53) hS ?_
                    refine offE 53 (some 111) (lsA 57 54) hS ?_
                    refine offE 54 (some 112) (lsA 57 55) hS ?_
                    refine takeE 55 (some 113) (lsA 57 56) hS ?_
                    refine takeE 56 (some 5) (lsA 57 57) hS ?_
                    refine wpAnyH_done (by kernel_rfl) ?_ _
                    try go_simp
                    go_wp2
                    go_roundg gk
                    case measure => omega
                    case rel =>
                      have hu := HU.out
                      have hs := hS
                      refine ⟨i + 1, _, rfl, by first | rfl | (congr 1), by omega, by omega, HO.out, fun _ => HT.out, hu.trans ((HBX.out.trans (hs.mono HBX.out.size)).mono hu.size)⟩
                  | true =>
                    refine takeE 39 (some 97) (lsA 57 40) hS ?_
                    refine takeE 40 (some 98) (lsA 57 41) hS ?_
                    refine takeE 41 (some 99) (lsA 57 42) hS ?_
                    refine takeE 42 (some 100) (lsA 57 43) hS ?_
                    refine takeE 43 (some 101) (lsA 57 44) hS ?_
                    refine takeE 44 (some 102) (lsA 57 45) hS ?_
                    cases b7 with
                    | true =>
                      refine offE 45 (some 103) (lsA 57 46) hS ?_
                      refine offE 46 (some 104) (lsA 57 47) hS ?_
                      refine offE 47 (some 105) (lsA 57 48) hS ?_
                      refine offE 48 (some 106) (lsA 57 49) hS ?_
                      refine offE 49 (some 107) (lsA 57 50) hS ?_
                      refine offE 50 (some 108) (lsA 57 51) hS ?_
                      refine offE 51 (some 109) (lsA 57 52) hS ?_
                      refine offE 52 (some 110) (lsA 57 53) hS ?_
                      refine offE 53 (some 111) (lsA 57 54) hS ?_
                      refine takeE 54 (some 112) (lsA 57 55) hS ?_
                      refine takeE 55 (some 113) (lsA 57 56) hS ?_
                      refine takeE 56 (some 5) (lsA 57 57) hS ?_
                      refine wpAnyH_done (by kernel_rfl) ?_ _
                      try go_simp
                      go_wp2
                      go_roundg gk
                      case measure => omega
                      case rel =>
                        have hu := HU.out
                        have hs := hS
                        refine ⟨i + 1, _, rfl, by first | rfl | (congr 1), by omega, by omega, HO.out, fun _ => HT.out, hu.trans ((HBX.out.trans (hs.mono HBX.out.size)).mono hu.size)⟩
                    | false =>
                      have hi0 : i ≠ 0 := fun e => by rw [e] at d7; cases d7
                      obtain ⟨n, rfl⟩ : ∃ n, i = n + 1 := ⟨i - 1, by omega⟩
                      obtain ⟨ad2, had2, P0, P1, P2, P3, P4, P5, P6, P7, P8, P9, P10, P11⟩ := at_T46 HRX.out (n : Int) (by omega) (by omega)
                      cases had2
                      have hwn : IntKind.i64.wrap (n : Int) = (n : Int) := by rw [IntKind.wrap_i64]; omega
                      have hbn : (0 : Int) ≤ (n : Int) ∧ (n : Int) < (s.f4.length : Int) := by omega
                      have hyn := HY.out
                      rw [show ((n + 1 : Nat) : Int) - 1 = (n : Int) by omega] at hyn
                      rw [Int.toNat_natCast, hyn] at P0 P1 P2 P3 P4 P5 P6 P7 P8 P9 P10 P11
                      clear hyn
                      replace P0 := Lib.hid P0; replace P1 := Lib.hid P1; replace P2 := Lib.hid P2; replace P3 := Lib.hid P3; replace P4 := Lib.hid P4; replace P5 := Lib.hid P5; replace P6 := Lib.hid P6; replace P7 := Lib.hid P7; replace P8 := Lib.hid P8; replace P9 := Lib.hid P9; replace P10 := Lib.hid P10; replace P11 := Lib.hid P11
                      refine takeE 45 (some 103) (lsA 57 46) hS ?_
                      refine takeE 46 (some 104) (lsA 57 47) hS ?_ (hy := fun w_ hS_ => by (replace hS_ : Below WX.heap.size WX w_ := hS_); have S4_ := below_cell hS_ S4.out; go_simp <;> with_reducible rfl)
                      refine takeE 47 (some 105) (lsA 57 48) hS ?_
                      refine takeE 48 (some 106) (lsA 57 49) hS ?_
                      refine takeE 49 (some 107) (lsA 57 50) hS ?_
                      refine takeE 50 (some 108) (lsA 57 51) hS ?_ (hy := fun w_ hS_ => by (replace hS_ : Below WX.heap.size WX w_ := hS_); have P0_ := below_cell hS_ P0.out; have P1_ := below_cell hS_ P1.out; have P2_ := below_cell hS_ P2.out; have P3_ := below_cell hS_ P3.out; have P4_ := below_cell hS_ P4.out; have P5_ := below_cell hS_ P5.out; have P6_ := below_cell hS_ P6.out; have P7_ := below_cell hS_ P7.out; have P8_ := below_cell hS_ P8.out; have P9_ := below_cell hS_ P9.out; have P10_ := below_cell hS_ P10.out; have P11_ := below_cell hS_ P11.out; go_simp <;> with_reducible rfl)
                      refine takeE 51 (some 109) (lsA 57 52) hS ?_ (hy := fun w_ hS_ => by (replace hS_ : Below WX.heap.size WX w_ := hS_); have X0_ := below_cell hS_ X0.out; have X1_ := below_cell hS_ X1.out; have X2_ := below_cell hS_ X2.out; have X3_ := below_cell hS_ X3.out; have X4_ := below_cell hS_ X4.out; have X5_ := below_cell hS_ X5.out; have X6_ := below_cell hS_ X6.out; have X7_ := below_cell hS_ X7.out; have X8_ := below_cell hS_ X8.out; have X9_ := below_cell hS_ X9.out; have X10_ := below_cell hS_ X10.out; have X11_ := below_cell hS_ X11.out; go_simp <;> with_reducible rfl)
                      refine doD (i := 52) (ls2 := (lsA 57 53)) (by kernel_rfl) rfl (by kernel_rfl) (by kernel_rfl) (fun K hK => ?_)
                      go_simp
                      go_wp2_with (first | (go_at_call 48; go_loud ((with_reducible refine (hor.out _).mono ?_); rintro e w5 ⟨rfl, hb5⟩)))
                      refine hK.out _ _ ?_ (fun hS_ => ?_)
                      · show Below WX.heap.size WX _
                        exact hS.trans (hb5.mono hS.size)
                      clear hK K hS
                      have hS : Below WX.heap.size WX _ := hS_
                      clear hS_
                      refine takeE 53 (some 111) (lsA 57 54) hS ?_
                      refine takeE 54 (some 112) (lsA 57 55) hS ?_
                      refine takeE 55 (some 113) (lsA 57 56) hS ?_
                      refine takeE 56 (some 5) (lsA 57 57) hS ?_
                      refine wpAnyH_done (by kernel_rfl) ?_ _
                      try go_simp
                      go_wp2
                      go_roundg gk
                      case measure => omega
                      case rel =>
                        have hu := HU.out
                        have hs := hS
                        refine ⟨n + 1 + 1, _, rfl, by first | rfl | (congr 1), by omega, by omega, HO.out, fun _ => HT.out, hu.trans ((HBX.out.trans (hs.mono HBX.out.size)).mono hu.size)⟩
end Go.Proofs.Ytgipepjpkmlmaaa.P
