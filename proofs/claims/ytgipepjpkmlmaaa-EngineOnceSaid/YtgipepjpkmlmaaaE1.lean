import Derived.Test.YtgipepjpkmlmaaaE0
import Derived.Test.YtgipepjpkmlmaaaM1
namespace Go.Proofs.Ytgipepjpkmlmaaa.P
open Go.RowKit Go.Proofs.YtgipepjpkmlmaaaW.PrintWords Go.Proofs.YtgipepjpkmlmaaaW.PrintLast Go.Proofs.YtgipepjpkmlmaaaW.PrintMore
set_option linter.unusedVariables false
set_option linter.unusedSimpArgs false

/-- A row of numbers in a block of its own. -/
theorem ints_C {w : World} {g : Nat} (l : List Int) (hl : l.length ≤ 1000000) (h : w.heap[g]? = some (.cells (flatI l).toArray 3 (0, 0))) : (Kd.int .i64).C w (some ⟨g, 0, none⟩) l.length l := by
  refine ⟨rfl, by omega, fun _ => ⟨_, rfl, fun j p hj => ⟨[.int .i64 p], rfl, rfl, fun i u hu => ?_⟩⟩⟩
  have hi : i = 0 := by
    cases i with
    | zero => rfl
    | succ i => simp at hu
  subst hi
  have hu2 : u = .int .i64 p := by simpa using hu.symm
  subst hu2
  have e : ((⟨g, 0, none⟩ : Addr).add (j * (Kd.int .i64).sz + 0)) = ⟨g, j, none⟩ := by
    show (⟨g, 0, none⟩ : Addr).add (j * 1 + 0) = _
    rw [Nat.mul_one, Nat.add_zero]
    unfold Addr.add
    simp
    omega
  rw [e, blk_cell h, List.getElem?_toArray, flatI, List.getElem?_map, hj]
  rfl
theorem below_cell {w w' : World} {a : Addr} {v : Value} (hb : Below w.heap.size w w') (h : w.cell? a = some v) : w'.cell? a = some v :=
  (hb.cell (World.block_lt_of_cell? w a h)).trans h
/-- What is asked ahead of the windows. -/
def preOk (g : S23) (s : S28) : Bool := chkG g && ((s.f0 == -1 || inB s.f0) && (([s.f1, s.f2, s.f3].all inB) && (decide (s.f1 ≤ wrap64 (s.f3 - s.f2)) && decide (s.f4.length ≤ 64))))
/-- What is asked of a window. -/
def okAt (g : S23) (s : S28) (i : Nat) : Bool :=
  let x := rd_T46 s.f4 (i : Int)
  [x.f0, x.f1].all inB && (decide (x.f0 ≤ 1048576) && (decide (Int.tmod x.f1 g.f1 = 0) && (decide (x.f1 ≤ s.f0) && (!closedP g x.f1 s.f0 && (aggOk x.f2 && ((i : Int) == 0 || decide (ordP (rd_T46 s.f4 ((i : Int) - 1)) x < 0)))))))
def chkL (g : S23) (s : S28) : Nat → Nat → Bool → Bool
  | 0, _, b => b
  | k + 1, i, b => if b = true then chkL g s k (i + 1) (okAt g s i) else false
theorem chkL_false (g : S23) (s : S28) (k i : Nat) : chkL g s k i false = false := by cases k <;> rfl
def checkP (g : S23) (s : S28) : Bool := chkL g s s.f4.length 0 (preOk g s)
def OK21 (g : S23) (s : S28) (v : Value) : Prop := v = .bool (preOk g s)
set_option maxHeartbeats 16000000 in
set_option maxRecDepth 100000 in
theorem check21_calls (g : S23) (s : S28) (A : Option Addr) (c : Nat) (w : World) (hr : k46.C w A s.f4.length s.f4) (hc : s.f4.length ≤ c) (hl : s.f4.length ≤ 1000000) :
    Calls Try.prog 21 #[gridV g, .agg #[.int .i64 s.f0, .int .i64 s.f1, .int .i64 s.f2, .int .i64 s.f3, .slice A s.f4.length c]] w fun e w' => e = .returned (.int .i64 (argE (checkP g s))) ∧ Below w.heap.size w w' := by
  obtain ⟨R, hR0⟩ : ∃ R, checkP g s = R := ⟨_, rfl⟩
  rw [hR0]
  have HR0 := Lib.hid hR0
  clear hR0
  have hchk := fun w => check_calls g w
  have hbw : Below w.heap.size w ((w.alloc (.cells #[.int .i64 g.f0, .int .i64 g.f1, .int .i64 g.f2] 23)).alloc (.cells #[.int .i64 s.f0, .int .i64 s.f1, .int .i64 s.f2, .int .i64 s.f3, .slice A s.f4.length c] 28)) := ((Below.refl _ _).alloc (Nat.le_refl _) _).alloc (by simp) _
  have hgb : ((w.alloc (.cells #[.int .i64 g.f0, .int .i64 g.f1, .int .i64 g.f2] 23)).alloc (.cells #[.int .i64 s.f0, .int .i64 s.f1, .int .i64 s.f2, .int .i64 s.f3, .slice A s.f4.length c] 28)).heap[w.heap.size]? = some (.cells #[.int .i64 g.f0, .int .i64 g.f1, .int .i64 g.f2] 23 (0, 0)) := by
    rw [Below.heap_alloc _ _ _ (by simp)]
    exact heap_alloc_new _ _
  have hsb : ((w.alloc (.cells #[.int .i64 g.f0, .int .i64 g.f1, .int .i64 g.f2] 23)).alloc (.cells #[.int .i64 s.f0, .int .i64 s.f1, .int .i64 s.f2, .int .i64 s.f3, .slice A s.f4.length c] 28)).heap[w.heap.size + 1]? = some (.cells #[.int .i64 s.f0, .int .i64 s.f1, .int .i64 s.f2, .int .i64 s.f3, .slice A s.f4.length c] 28 (0, 0)) := by
    have := heap_alloc_new (w.alloc (.cells #[.int .i64 g.f0, .int .i64 g.f1, .int .i64 g.f2] 23)) (.cells #[.int .i64 s.f0, .int .i64 s.f1, .int .i64 s.f2, .int .i64 s.f3, .slice A s.f4.length c] 28)
    simpa using this
  obtain ⟨W0, hW0⟩ : ∃ W0, W0 = (w.alloc (.cells #[.int .i64 g.f0, .int .i64 g.f1, .int .i64 g.f2] 23)).alloc (.cells #[.int .i64 s.f0, .int .i64 s.f1, .int .i64 s.f2, .int .i64 s.f3, .slice A s.f4.length c] 28) := ⟨_, rfl⟩
  rw [← hW0] at hbw hgb hsb
  have HBW := Lib.hid hbw
  have HGB := Lib.hid hgb
  have HSB := Lib.hid hsb
  have HW0 := Lib.hid hW0
  obtain ⟨b1, hb1⟩ : ∃ b, chkG g = b := ⟨_, rfl⟩
  obtain ⟨b2, hb2⟩ : ∃ b, (s.f0 == -1) = b := ⟨_, rfl⟩
  obtain ⟨b3, hb3⟩ : ∃ b, [s.f0].all inB = b := ⟨_, rfl⟩
  obtain ⟨b4, hb4⟩ : ∃ b, [s.f1, s.f2, s.f3].all inB = b := ⟨_, rfl⟩
  obtain ⟨b5, hb5⟩ : ∃ b, decide (s.f1 ≤ wrap64 (s.f3 - s.f2)) = b := ⟨_, rfl⟩
  obtain ⟨b6, hb6⟩ : ∃ b, decide (s.f4.length ≤ 64) = b := ⟨_, rfl⟩
  have hpre : preOk g s = (b1 && ((b2 || b3) && (b4 && (b5 && b6)))) := by
    rw [preOk, hb1, hb2, hb4, hb5, hb6, ← hb3]
    simp
  have d6 : decide ((s.f4.length : Int) ≤ 64) = b6 := by rw [← hb6]; exact decide_eq_decide.2 (by omega)
  have d5 : decide (s.f1 ≤ wrap64 (s.f3 - s.f2)) = b5 := hb5
  have d2 : (s.f0 == -1) = b2 := hb2
  rw [hb1] at hchk
  have hin1 : ∀ (A : Option Addr) (w : World), (Kd.int .i64).C w A 1 [s.f0] → Calls Try.prog 45 #[.slice A 1 1] w fun e w' => e = .returned (.bool ([s.f0].all inB)) ∧ w' = w := fun A w hr => within_calls A 1 [s.f0] w hr (Nat.le_refl _) (by simp)
  have hin3 : ∀ (A : Option Addr) (w : World), (Kd.int .i64).C w A 3 [s.f1, s.f2, s.f3] → Calls Try.prog 45 #[.slice A 3 3] w fun e w' => e = .returned (.bool ([s.f1, s.f2, s.f3].all inB)) ∧ w' = w := fun A w hr => within_calls A 3 [s.f1, s.f2, s.f3] w hr (Nat.le_refl _) (by simp)
  rw [hb3] at hin1
  rw [hb4] at hin3
  have HP := Lib.hid hpre
  have HB4 := Lib.hid hb1
  clear hbw hgb hsb hW0 hb1 hb2 hb3 hb4 hb5 hb6 hpre
  go_enter Try.func21, Try.ntmps21
  go_upto_region 1 with fail
  go_cut [5] from 8 to 47 (fun v5 wc => OK21 g s v5 ∧ Below W0.heap.size W0 wc)
  case first =>
    cases b1 with
    | false =>
      go_wp2_with (first | (go_at_call 44; go_loud ((with_reducible refine (hchk _).mono ?_); rintro e w1 ⟨rfl, hb1⟩; rw [← HW0.out] at hb1)))
      go_meet
      case rel => exact ⟨by unfold OK21; rw [HP.out]; rfl, hb1⟩
    | true =>
      cases b2 with
      | true =>
        cases b4 with
        | false =>
          go_wp2_with (first | (go_at_call 44; go_loud ((with_reducible refine (hchk _).mono ?_); rintro e w1 ⟨rfl, hb1⟩; rw [← HW0.out] at hb1; have q0 := blk_below HSB.out hb1; have q1 : w1.cell? ⟨w.heap.size + 1, 0, none⟩ = some (.int .i64 s.f0) := (blk_cell q0 0).trans rfl; have q2 : w1.cell? ⟨w.heap.size + 1, 1, none⟩ = some (.int .i64 s.f1) := (blk_cell q0 1).trans rfl; have q3 : w1.cell? ⟨w.heap.size + 1, 2, none⟩ = some (.int .i64 s.f2) := (blk_cell q0 2).trans rfl; have q4 : w1.cell? ⟨w.heap.size + 1, 3, none⟩ = some (.int .i64 s.f3) := (blk_cell q0 3).trans rfl; have q5 : w1.cell? ⟨w.heap.size + 1, 4, none⟩ = some (.slice A s.f4.length c) := (blk_cell q0 4).trans rfl; have HB1 := Lib.hid hb1; clear hb1)) | (go_at_call 45; go_loud ((with_reducible refine (hin3 _ _ (ints_C [s.f1, s.f2, s.f3] (by simp) (heap_alloc_new _ _))).mono ?_); rintro e w3 ⟨rfl, rfl⟩; have t1 := below_cell (show Below w1.heap.size w1 (w1.alloc (.cells #[.int .i64 s.f1, .int .i64 s.f2, .int .i64 s.f3] 3)) from (Below.refl _ _).alloc (Nat.le_refl _) _) q1; have t2 := below_cell (show Below w1.heap.size w1 (w1.alloc (.cells #[.int .i64 s.f1, .int .i64 s.f2, .int .i64 s.f3] 3)) from (Below.refl _ _).alloc (Nat.le_refl _) _) q2; have t3 := below_cell (show Below w1.heap.size w1 (w1.alloc (.cells #[.int .i64 s.f1, .int .i64 s.f2, .int .i64 s.f3] 3)) from (Below.refl _ _).alloc (Nat.le_refl _) _) q3; have t4 := below_cell (show Below w1.heap.size w1 (w1.alloc (.cells #[.int .i64 s.f1, .int .i64 s.f2, .int .i64 s.f3] 3)) from (Below.refl _ _).alloc (Nat.le_refl _) _) q4; have t5 := below_cell (show Below w1.heap.size w1 (w1.alloc (.cells #[.int .i64 s.f1, .int .i64 s.f2, .int .i64 s.f3] 3)) from (Below.refl _ _).alloc (Nat.le_refl _) _) q5)))
          go_meet
          case rel => exact ⟨by unfold OK21; rw [HP.out]; rfl, (HB1.out.alloc HB1.out.size _)⟩
        | true =>
          cases b5 with
          | false =>
            go_wp2_with (first | (go_at_call 44; go_loud ((with_reducible refine (hchk _).mono ?_); rintro e w1 ⟨rfl, hb1⟩; rw [← HW0.out] at hb1; have q0 := blk_below HSB.out hb1; have q1 : w1.cell? ⟨w.heap.size + 1, 0, none⟩ = some (.int .i64 s.f0) := (blk_cell q0 0).trans rfl; have q2 : w1.cell? ⟨w.heap.size + 1, 1, none⟩ = some (.int .i64 s.f1) := (blk_cell q0 1).trans rfl; have q3 : w1.cell? ⟨w.heap.size + 1, 2, none⟩ = some (.int .i64 s.f2) := (blk_cell q0 2).trans rfl; have q4 : w1.cell? ⟨w.heap.size + 1, 3, none⟩ = some (.int .i64 s.f3) := (blk_cell q0 3).trans rfl; have q5 : w1.cell? ⟨w.heap.size + 1, 4, none⟩ = some (.slice A s.f4.length c) := (blk_cell q0 4).trans rfl; have HB1 := Lib.hid hb1; clear hb1)) | (go_at_call 45; go_loud ((with_reducible refine (hin3 _ _ (ints_C [s.f1, s.f2, s.f3] (by simp) (heap_alloc_new _ _))).mono ?_); rintro e w3 ⟨rfl, rfl⟩; have t1 := below_cell (show Below w1.heap.size w1 (w1.alloc (.cells #[.int .i64 s.f1, .int .i64 s.f2, .int .i64 s.f3] 3)) from (Below.refl _ _).alloc (Nat.le_refl _) _) q1; have t2 := below_cell (show Below w1.heap.size w1 (w1.alloc (.cells #[.int .i64 s.f1, .int .i64 s.f2, .int .i64 s.f3] 3)) from (Below.refl _ _).alloc (Nat.le_refl _) _) q2; have t3 := below_cell (show Below w1.heap.size w1 (w1.alloc (.cells #[.int .i64 s.f1, .int .i64 s.f2, .int .i64 s.f3] 3)) from (Below.refl _ _).alloc (Nat.le_refl _) _) q3; have t4 := below_cell (show Below w1.heap.size w1 (w1.alloc (.cells #[.int .i64 s.f1, .int .i64 s.f2, .int .i64 s.f3] 3)) from (Below.refl _ _).alloc (Nat.le_refl _) _) q4; have t5 := below_cell (show Below w1.heap.size w1 (w1.alloc (.cells #[.int .i64 s.f1, .int .i64 s.f2, .int .i64 s.f3] 3)) from (Below.refl _ _).alloc (Nat.le_refl _) _) q5)))
            go_meet
            case rel => exact ⟨by unfold OK21; rw [HP.out]; rfl, (HB1.out.alloc HB1.out.size _)⟩
          | true =>
            go_wp2_with (first | (go_at_call 44; go_loud ((with_reducible refine (hchk _).mono ?_); rintro e w1 ⟨rfl, hb1⟩; rw [← HW0.out] at hb1; have q0 := blk_below HSB.out hb1; have q1 : w1.cell? ⟨w.heap.size + 1, 0, none⟩ = some (.int .i64 s.f0) := (blk_cell q0 0).trans rfl; have q2 : w1.cell? ⟨w.heap.size + 1, 1, none⟩ = some (.int .i64 s.f1) := (blk_cell q0 1).trans rfl; have q3 : w1.cell? ⟨w.heap.size + 1, 2, none⟩ = some (.int .i64 s.f2) := (blk_cell q0 2).trans rfl; have q4 : w1.cell? ⟨w.heap.size + 1, 3, none⟩ = some (.int .i64 s.f3) := (blk_cell q0 3).trans rfl; have q5 : w1.cell? ⟨w.heap.size + 1, 4, none⟩ = some (.slice A s.f4.length c) := (blk_cell q0 4).trans rfl; have HB1 := Lib.hid hb1; clear hb1)) | (go_at_call 45; go_loud ((with_reducible refine (hin3 _ _ (ints_C [s.f1, s.f2, s.f3] (by simp) (heap_alloc_new _ _))).mono ?_); rintro e w3 ⟨rfl, rfl⟩; have t1 := below_cell (show Below w1.heap.size w1 (w1.alloc (.cells #[.int .i64 s.f1, .int .i64 s.f2, .int .i64 s.f3] 3)) from (Below.refl _ _).alloc (Nat.le_refl _) _) q1; have t2 := below_cell (show Below w1.heap.size w1 (w1.alloc (.cells #[.int .i64 s.f1, .int .i64 s.f2, .int .i64 s.f3] 3)) from (Below.refl _ _).alloc (Nat.le_refl _) _) q2; have t3 := below_cell (show Below w1.heap.size w1 (w1.alloc (.cells #[.int .i64 s.f1, .int .i64 s.f2, .int .i64 s.f3] 3)) from (Below.refl _ _).alloc (Nat.le_refl _) _) q3; have t4 := below_cell (show Below w1.heap.size w1 (w1.alloc (.cells #[.int .i64 s.f1, .int .i64 s.f2, .int .i64 s.f3] 3)) from (Below.refl _ _).alloc (Nat.le_refl _) _) q4; have t5 := below_cell (show Below w1.heap.size w1 (w1.alloc (.cells #[.int .i64 s.f1, .int .i64 s.f2, .int .i64 s.f3] 3)) from (Below.refl _ _).alloc (Nat.le_refl _) _) q5)))
            go_meet
            case rel => exact ⟨by unfold OK21; rw [HP.out]; rfl, (HB1.out.alloc HB1.out.size _)⟩
      | false =>
        cases b3 with
        | false =>
          go_wp2_with (first | (go_at_call 44; go_loud ((with_reducible refine (hchk _).mono ?_); rintro e w1 ⟨rfl, hb1⟩; rw [← HW0.out] at hb1; have q0 := blk_below HSB.out hb1; have q1 : w1.cell? ⟨w.heap.size + 1, 0, none⟩ = some (.int .i64 s.f0) := (blk_cell q0 0).trans rfl; have q2 : w1.cell? ⟨w.heap.size + 1, 1, none⟩ = some (.int .i64 s.f1) := (blk_cell q0 1).trans rfl; have q3 : w1.cell? ⟨w.heap.size + 1, 2, none⟩ = some (.int .i64 s.f2) := (blk_cell q0 2).trans rfl; have q4 : w1.cell? ⟨w.heap.size + 1, 3, none⟩ = some (.int .i64 s.f3) := (blk_cell q0 3).trans rfl; have q5 : w1.cell? ⟨w.heap.size + 1, 4, none⟩ = some (.slice A s.f4.length c) := (blk_cell q0 4).trans rfl; have HB1 := Lib.hid hb1; clear hb1)) | (go_at_call 45; go_loud ((with_reducible refine (hin1 _ _ (ints_C [s.f0] (by simp) (heap_alloc_new _ _))).mono ?_); rintro e w2 ⟨rfl, rfl⟩; have r1 := below_cell (show Below w1.heap.size w1 (w1.alloc (.cells #[.int .i64 s.f0] 3)) from (Below.refl _ _).alloc (Nat.le_refl _) _) q1; have r2 := below_cell (show Below w1.heap.size w1 (w1.alloc (.cells #[.int .i64 s.f0] 3)) from (Below.refl _ _).alloc (Nat.le_refl _) _) q2; have r3 := below_cell (show Below w1.heap.size w1 (w1.alloc (.cells #[.int .i64 s.f0] 3)) from (Below.refl _ _).alloc (Nat.le_refl _) _) q3; have r4 := below_cell (show Below w1.heap.size w1 (w1.alloc (.cells #[.int .i64 s.f0] 3)) from (Below.refl _ _).alloc (Nat.le_refl _) _) q4; have r5 := below_cell (show Below w1.heap.size w1 (w1.alloc (.cells #[.int .i64 s.f0] 3)) from (Below.refl _ _).alloc (Nat.le_refl _) _) q5)))
          go_meet
          case rel => exact ⟨by unfold OK21; rw [HP.out]; rfl, (HB1.out.alloc HB1.out.size _)⟩
        | true =>
          cases b4 with
          | false =>
            go_wp2_with (first | (go_at_call 44; go_loud ((with_reducible refine (hchk _).mono ?_); rintro e w1 ⟨rfl, hb1⟩; rw [← HW0.out] at hb1; have q0 := blk_below HSB.out hb1; have q1 : w1.cell? ⟨w.heap.size + 1, 0, none⟩ = some (.int .i64 s.f0) := (blk_cell q0 0).trans rfl; have q2 : w1.cell? ⟨w.heap.size + 1, 1, none⟩ = some (.int .i64 s.f1) := (blk_cell q0 1).trans rfl; have q3 : w1.cell? ⟨w.heap.size + 1, 2, none⟩ = some (.int .i64 s.f2) := (blk_cell q0 2).trans rfl; have q4 : w1.cell? ⟨w.heap.size + 1, 3, none⟩ = some (.int .i64 s.f3) := (blk_cell q0 3).trans rfl; have q5 : w1.cell? ⟨w.heap.size + 1, 4, none⟩ = some (.slice A s.f4.length c) := (blk_cell q0 4).trans rfl; have HB1 := Lib.hid hb1; clear hb1)) | (go_at_call 45; (with_reducible refine (hin1 _ _ (ints_C [s.f0] (by simp) (heap_alloc_new _ _))).mono ?_); rintro e w2 ⟨rfl, rfl⟩; have r1 := below_cell (show Below w1.heap.size w1 (w1.alloc (.cells #[.int .i64 s.f0] 3)) from (Below.refl _ _).alloc (Nat.le_refl _) _) q1; have r2 := below_cell (show Below w1.heap.size w1 (w1.alloc (.cells #[.int .i64 s.f0] 3)) from (Below.refl _ _).alloc (Nat.le_refl _) _) q2; have r3 := below_cell (show Below w1.heap.size w1 (w1.alloc (.cells #[.int .i64 s.f0] 3)) from (Below.refl _ _).alloc (Nat.le_refl _) _) q3; have r4 := below_cell (show Below w1.heap.size w1 (w1.alloc (.cells #[.int .i64 s.f0] 3)) from (Below.refl _ _).alloc (Nat.le_refl _) _) q4; have r5 := below_cell (show Below w1.heap.size w1 (w1.alloc (.cells #[.int .i64 s.f0] 3)) from (Below.refl _ _).alloc (Nat.le_refl _) _) q5) | (go_at_call 45; go_loud ((with_reducible refine (hin3 _ _ (ints_C [s.f1, s.f2, s.f3] (by simp) (heap_alloc2_new _ _ _))).mono ?_); rintro e w3 ⟨rfl, rfl⟩; have t1 := below_cell (show Below (w1.alloc (.cells #[.int .i64 s.f0] 3)).heap.size (w1.alloc (.cells #[.int .i64 s.f0] 3)) ((w1.alloc (.cells #[.int .i64 s.f0] 3)).alloc (.cells #[.int .i64 s.f1, .int .i64 s.f2, .int .i64 s.f3] 3)) from (Below.refl _ _).alloc (Nat.le_refl _) _) r1; have t2 := below_cell (show Below (w1.alloc (.cells #[.int .i64 s.f0] 3)).heap.size (w1.alloc (.cells #[.int .i64 s.f0] 3)) ((w1.alloc (.cells #[.int .i64 s.f0] 3)).alloc (.cells #[.int .i64 s.f1, .int .i64 s.f2, .int .i64 s.f3] 3)) from (Below.refl _ _).alloc (Nat.le_refl _) _) r2; have t3 := below_cell (show Below (w1.alloc (.cells #[.int .i64 s.f0] 3)).heap.size (w1.alloc (.cells #[.int .i64 s.f0] 3)) ((w1.alloc (.cells #[.int .i64 s.f0] 3)).alloc (.cells #[.int .i64 s.f1, .int .i64 s.f2, .int .i64 s.f3] 3)) from (Below.refl _ _).alloc (Nat.le_refl _) _) r3; have t4 := below_cell (show Below (w1.alloc (.cells #[.int .i64 s.f0] 3)).heap.size (w1.alloc (.cells #[.int .i64 s.f0] 3)) ((w1.alloc (.cells #[.int .i64 s.f0] 3)).alloc (.cells #[.int .i64 s.f1, .int .i64 s.f2, .int .i64 s.f3] 3)) from (Below.refl _ _).alloc (Nat.le_refl _) _) r4; have t5 := below_cell (show Below (w1.alloc (.cells #[.int .i64 s.f0] 3)).heap.size (w1.alloc (.cells #[.int .i64 s.f0] 3)) ((w1.alloc (.cells #[.int .i64 s.f0] 3)).alloc (.cells #[.int .i64 s.f1, .int .i64 s.f2, .int .i64 s.f3] 3)) from (Below.refl _ _).alloc (Nat.le_refl _) _) r5)))
            go_meet
            case rel => exact ⟨by unfold OK21; rw [HP.out]; rfl, ((HB1.out.alloc HB1.out.size _).alloc (Nat.le_trans HB1.out.size (by simp)) _)⟩
          | true =>
            cases b5 with
            | false =>
              go_wp2_with (first | (go_at_call 44; go_loud ((with_reducible refine (hchk _).mono ?_); rintro e w1 ⟨rfl, hb1⟩; rw [← HW0.out] at hb1; have q0 := blk_below HSB.out hb1; have q1 : w1.cell? ⟨w.heap.size + 1, 0, none⟩ = some (.int .i64 s.f0) := (blk_cell q0 0).trans rfl; have q2 : w1.cell? ⟨w.heap.size + 1, 1, none⟩ = some (.int .i64 s.f1) := (blk_cell q0 1).trans rfl; have q3 : w1.cell? ⟨w.heap.size + 1, 2, none⟩ = some (.int .i64 s.f2) := (blk_cell q0 2).trans rfl; have q4 : w1.cell? ⟨w.heap.size + 1, 3, none⟩ = some (.int .i64 s.f3) := (blk_cell q0 3).trans rfl; have q5 : w1.cell? ⟨w.heap.size + 1, 4, none⟩ = some (.slice A s.f4.length c) := (blk_cell q0 4).trans rfl; have HB1 := Lib.hid hb1; clear hb1)) | (go_at_call 45; (with_reducible refine (hin1 _ _ (ints_C [s.f0] (by simp) (heap_alloc_new _ _))).mono ?_); rintro e w2 ⟨rfl, rfl⟩; have r1 := below_cell (show Below w1.heap.size w1 (w1.alloc (.cells #[.int .i64 s.f0] 3)) from (Below.refl _ _).alloc (Nat.le_refl _) _) q1; have r2 := below_cell (show Below w1.heap.size w1 (w1.alloc (.cells #[.int .i64 s.f0] 3)) from (Below.refl _ _).alloc (Nat.le_refl _) _) q2; have r3 := below_cell (show Below w1.heap.size w1 (w1.alloc (.cells #[.int .i64 s.f0] 3)) from (Below.refl _ _).alloc (Nat.le_refl _) _) q3; have r4 := below_cell (show Below w1.heap.size w1 (w1.alloc (.cells #[.int .i64 s.f0] 3)) from (Below.refl _ _).alloc (Nat.le_refl _) _) q4; have r5 := below_cell (show Below w1.heap.size w1 (w1.alloc (.cells #[.int .i64 s.f0] 3)) from (Below.refl _ _).alloc (Nat.le_refl _) _) q5) | (go_at_call 45; go_loud ((with_reducible refine (hin3 _ _ (ints_C [s.f1, s.f2, s.f3] (by simp) (heap_alloc2_new _ _ _))).mono ?_); rintro e w3 ⟨rfl, rfl⟩; have t1 := below_cell (show Below (w1.alloc (.cells #[.int .i64 s.f0] 3)).heap.size (w1.alloc (.cells #[.int .i64 s.f0] 3)) ((w1.alloc (.cells #[.int .i64 s.f0] 3)).alloc (.cells #[.int .i64 s.f1, .int .i64 s.f2, .int .i64 s.f3] 3)) from (Below.refl _ _).alloc (Nat.le_refl _) _) r1; have t2 := below_cell (show Below (w1.alloc (.cells #[.int .i64 s.f0] 3)).heap.size (w1.alloc (.cells #[.int .i64 s.f0] 3)) ((w1.alloc (.cells #[.int .i64 s.f0] 3)).alloc (.cells #[.int .i64 s.f1, .int .i64 s.f2, .int .i64 s.f3] 3)) from (Below.refl _ _).alloc (Nat.le_refl _) _) r2; have t3 := below_cell (show Below (w1.alloc (.cells #[.int .i64 s.f0] 3)).heap.size (w1.alloc (.cells #[.int .i64 s.f0] 3)) ((w1.alloc (.cells #[.int .i64 s.f0] 3)).alloc (.cells #[.int .i64 s.f1, .int .i64 s.f2, .int .i64 s.f3] 3)) from (Below.refl _ _).alloc (Nat.le_refl _) _) r3; have t4 := below_cell (show Below (w1.alloc (.cells #[.int .i64 s.f0] 3)).heap.size (w1.alloc (.cells #[.int .i64 s.f0] 3)) ((w1.alloc (.cells #[.int .i64 s.f0] 3)).alloc (.cells #[.int .i64 s.f1, .int .i64 s.f2, .int .i64 s.f3] 3)) from (Below.refl _ _).alloc (Nat.le_refl _) _) r4; have t5 := below_cell (show Below (w1.alloc (.cells #[.int .i64 s.f0] 3)).heap.size (w1.alloc (.cells #[.int .i64 s.f0] 3)) ((w1.alloc (.cells #[.int .i64 s.f0] 3)).alloc (.cells #[.int .i64 s.f1, .int .i64 s.f2, .int .i64 s.f3] 3)) from (Below.refl _ _).alloc (Nat.le_refl _) _) r5)))
              go_meet
              case rel => exact ⟨by unfold OK21; rw [HP.out]; rfl, ((HB1.out.alloc HB1.out.size _).alloc (Nat.le_trans HB1.out.size (by simp)) _)⟩
            | true =>
              go_wp2_with (first | (go_at_call 44; go_loud ((with_reducible refine (hchk _).mono ?_); rintro e w1 ⟨rfl, hb1⟩; rw [← HW0.out] at hb1; have q0 := blk_below HSB.out hb1; have q1 : w1.cell? ⟨w.heap.size + 1, 0, none⟩ = some (.int .i64 s.f0) := (blk_cell q0 0).trans rfl; have q2 : w1.cell? ⟨w.heap.size + 1, 1, none⟩ = some (.int .i64 s.f1) := (blk_cell q0 1).trans rfl; have q3 : w1.cell? ⟨w.heap.size + 1, 2, none⟩ = some (.int .i64 s.f2) := (blk_cell q0 2).trans rfl; have q4 : w1.cell? ⟨w.heap.size + 1, 3, none⟩ = some (.int .i64 s.f3) := (blk_cell q0 3).trans rfl; have q5 : w1.cell? ⟨w.heap.size + 1, 4, none⟩ = some (.slice A s.f4.length c) := (blk_cell q0 4).trans rfl; have HB1 := Lib.hid hb1; clear hb1)) | (go_at_call 45; (with_reducible refine (hin1 _ _ (ints_C [s.f0] (by simp) (heap_alloc_new _ _))).mono ?_); rintro e w2 ⟨rfl, rfl⟩; have r1 := below_cell (show Below w1.heap.size w1 (w1.alloc (.cells #[.int .i64 s.f0] 3)) from (Below.refl _ _).alloc (Nat.le_refl _) _) q1; have r2 := below_cell (show Below w1.heap.size w1 (w1.alloc (.cells #[.int .i64 s.f0] 3)) from (Below.refl _ _).alloc (Nat.le_refl _) _) q2; have r3 := below_cell (show Below w1.heap.size w1 (w1.alloc (.cells #[.int .i64 s.f0] 3)) from (Below.refl _ _).alloc (Nat.le_refl _) _) q3; have r4 := below_cell (show Below w1.heap.size w1 (w1.alloc (.cells #[.int .i64 s.f0] 3)) from (Below.refl _ _).alloc (Nat.le_refl _) _) q4; have r5 := below_cell (show Below w1.heap.size w1 (w1.alloc (.cells #[.int .i64 s.f0] 3)) from (Below.refl _ _).alloc (Nat.le_refl _) _) q5) | (go_at_call 45; go_loud ((with_reducible refine (hin3 _ _ (ints_C [s.f1, s.f2, s.f3] (by simp) (heap_alloc2_new _ _ _))).mono ?_); rintro e w3 ⟨rfl, rfl⟩; have t1 := below_cell (show Below (w1.alloc (.cells #[.int .i64 s.f0] 3)).heap.size (w1.alloc (.cells #[.int .i64 s.f0] 3)) ((w1.alloc (.cells #[.int .i64 s.f0] 3)).alloc (.cells #[.int .i64 s.f1, .int .i64 s.f2, .int .i64 s.f3] 3)) from (Below.refl _ _).alloc (Nat.le_refl _) _) r1; have t2 := below_cell (show Below (w1.alloc (.cells #[.int .i64 s.f0] 3)).heap.size (w1.alloc (.cells #[.int .i64 s.f0] 3)) ((w1.alloc (.cells #[.int .i64 s.f0] 3)).alloc (.cells #[.int .i64 s.f1, .int .i64 s.f2, .int .i64 s.f3] 3)) from (Below.refl _ _).alloc (Nat.le_refl _) _) r2; have t3 := below_cell (show Below (w1.alloc (.cells #[.int .i64 s.f0] 3)).heap.size (w1.alloc (.cells #[.int .i64 s.f0] 3)) ((w1.alloc (.cells #[.int .i64 s.f0] 3)).alloc (.cells #[.int .i64 s.f1, .int .i64 s.f2, .int .i64 s.f3] 3)) from (Below.refl _ _).alloc (Nat.le_refl _) _) r3; have t4 := below_cell (show Below (w1.alloc (.cells #[.int .i64 s.f0] 3)).heap.size (w1.alloc (.cells #[.int .i64 s.f0] 3)) ((w1.alloc (.cells #[.int .i64 s.f0] 3)).alloc (.cells #[.int .i64 s.f1, .int .i64 s.f2, .int .i64 s.f3] 3)) from (Below.refl _ _).alloc (Nat.le_refl _) _) r4; have t5 := below_cell (show Below (w1.alloc (.cells #[.int .i64 s.f0] 3)).heap.size (w1.alloc (.cells #[.int .i64 s.f0] 3)) ((w1.alloc (.cells #[.int .i64 s.f0] 3)).alloc (.cells #[.int .i64 s.f1, .int .i64 s.f2, .int .i64 s.f3] 3)) from (Below.refl _ _).alloc (Nat.le_refl _) _) r5)))
              go_meet
              case rel => exact ⟨by unfold OK21; rw [HP.out]; rfl, ((HB1.out.alloc HB1.out.size _).alloc (Nat.le_trans HB1.out.size (by simp)) _)⟩
  case rest =>
    obtain ⟨hv5, hbc⟩ := hcut
    unfold OK21 at hv5
    subst hv5
    clear hchk hin1 hin3 d6 d5 d2 HP
    have hcs := blk_below HSB.out hbc
    have z4 : wc.cell? ⟨w.heap.size + 1, 4, none⟩ = some (.slice A s.f4.length c) := (blk_cell hcs 4).trans rfl
    have hrc := Kd.C_below hr (HBW.out.trans (hbc.mono HBW.out.size))
    have hG : preOk g s = true → chkG g = true := fun h => by unfold preOk at h; simp only [Bool.and_eq_true] at h; exact h.1
    have hR : chkL g s s.f4.length 0 (preOk g s) = R := HR0.out
    revert hG hR
    generalize preOk g s = b0
    intro hG hR
    clear HR0
    have HR := Lib.hid hR
    have HBC := Lib.hid hbc
    have HRC := Lib.hid hrc
    have HG := Lib.hid hG
    clear hR hbc hrc hG hr hcs
    go_wp2
    go_loopg [5, 51] s.f4.length (fun kq v5 v51 wr => ∃ (i : Nat) (b : Bool), v5 = .bool b ∧ v51 = .int .i64 (i : Int) ∧ i ≤ s.f4.length ∧ s.f4.length - i ≤ kq ∧ chkL g s (s.f4.length - i) i b = R ∧ (b = true → chkG g = true) ∧ Below wc.heap.size wc wr)
    case atStart => exact ⟨0, b0, rfl, rfl, Nat.zero_le _, by omega, HR.out, HG.out, Below.refl _ _⟩
    case round =>
      obtain ⟨i, b, rfl, rfl, hil, hik, ho, hg, hbw⟩ := hrel

      clear HR
      by_cases hlt : i < s.f4.length
      rotate_left
      · have d1 : decide ((i : Int) < (s.f4.length : Int)) = false := decide_eq_false (by omega)
        rw [show s.f4.length - i = 0 by omega] at ho
        change b = R at ho
        subst ho
        have HBW2 := Lib.hid (HBW.out.trans ((HBC.out.trans (hbw.mono HBC.out.size)).mono HBW.out.size))
        clear hbw
        cases b with
        | false =>
          go_wp2
          go_ret
          exact ⟨rfl, HBW2.out⟩
        | true =>
          go_wp2
          go_ret
          exact ⟨rfl, HBW2.out⟩
      have d1 : decide ((i : Int) < (s.f4.length : Int)) = true := decide_eq_true (by omega)
      rw [show s.f4.length - i = (s.f4.length - (i + 1)) + 1 by omega, chkL] at ho
      have hrw := Kd.C_below HRC.out hbw
      obtain ⟨ad, rfl, x0, x1, x2, x3, x4, x5, x6, x7, x8, x9, x10, x11⟩ := at_T46 hrw (i : Int) (by omega) (by omega)
      rw [Int.toNat_natCast] at x0 x1 x2 x3 x4 x5 x6 x7 x8 x9 x10 x11
      obtain ⟨x, hx⟩ : ∃ x, rd_T46 s.f4 (i : Int) = x := ⟨_, rfl⟩
      rw [hx] at x0 x1 x2 x3 x4 x5 x6 x7 x8 x9 x10 x11
      cases gk with
      | zero => omega
      | succ gk =>
      cases b with
      | false =>
        rw [if_neg (by decide)] at ho
        subst ho
        have HBW2 := Lib.hid (HBW.out.trans ((HBC.out.trans (hbw.mono HBC.out.size)).mono HBW.out.size))
        have hbsz := hbw.size
        have hbl : Below wr.heap.size wr (wr.alloc (.cells #[.int .i64 x.f0, .int .i64 x.f1, .int .i64 x.f2.f0, .int .i64 x.f2.f1, .int .i64 x.f2.f2, .int .i64 x.f2.f3, .int .i64 x.f2.f4.f0, .int .i64 x.f2.f4.f1, .int .i64 x.f2.f4.f2, .int .i64 x.f2.f4.f3, .int .i64 x.f2.f5, .int .i64 x.f2.f6] 46)) := (Below.refl _ _).alloc (Nat.le_refl _) _
        have HBL := Lib.hid hbl
        clear hbw hbl
        go_wp2
        go_ret
        exact ⟨rfl, HBW2.out.trans (HBL.out.mono (Nat.le_trans HBW.out.size (Nat.le_trans HBC.out.size hbsz)))⟩
      | true =>
        rw [if_pos rfl] at ho
        have hg1 : 1 ≤ g.f1 := by
          have := hg rfl
          unfold chkG at this
          have := of_decide_eq_true this
          omega
        have hgt := hg rfl
        have dz : (g.f1 == 0) = false := beq_eq_false_iff_ne.2 (by omega)
        have dz0 : ¬ g.f1 = 0 := by omega
        obtain ⟨WX, hWX⟩ : ∃ WX, WX = wr.alloc (.cells #[.int .i64 x.f0, .int .i64 x.f1, .int .i64 x.f2.f0, .int .i64 x.f2.f1, .int .i64 x.f2.f2, .int .i64 x.f2.f3, .int .i64 x.f2.f4.f0, .int .i64 x.f2.f4.f1, .int .i64 x.f2.f4.f2, .int .i64 x.f2.f4.f3, .int .i64 x.f2.f5, .int .i64 x.f2.f6] 46) := ⟨_, rfl⟩
        have hbx : WX.heap[wr.heap.size]? = some (.cells #[.int .i64 x.f0, .int .i64 x.f1, .int .i64 x.f2.f0, .int .i64 x.f2.f1, .int .i64 x.f2.f2, .int .i64 x.f2.f3, .int .i64 x.f2.f4.f0, .int .i64 x.f2.f4.f1, .int .i64 x.f2.f4.f2, .int .i64 x.f2.f4.f3, .int .i64 x.f2.f5, .int .i64 x.f2.f6] 46 (0, 0)) := by rw [hWX]; exact heap_alloc_new _ _
        have hbX : Below wr.heap.size wr WX := by rw [hWX]; exact (Below.refl _ _).alloc (Nat.le_refl _) _
        have hbW : Below W0.heap.size W0 WX := (HBC.out.trans (hbw.mono HBC.out.size)).trans (hbX.mono (Nat.le_trans HBC.out.size hbw.size))
        have hgX := blk_below HGB.out hbW
        have hsX := blk_below HSB.out hbW
        have G0 : Hid (WX.cell? ⟨w.heap.size, 0, none⟩ = some (.int .i64 g.f0)) := Lib.hid ((blk_cell hgX 0).trans rfl)
        have G1 : Hid (WX.cell? ⟨w.heap.size, 1, none⟩ = some (.int .i64 g.f1)) := Lib.hid ((blk_cell hgX 1).trans rfl)
        have G2 : Hid (WX.cell? ⟨w.heap.size, 2, none⟩ = some (.int .i64 g.f2)) := Lib.hid ((blk_cell hgX 2).trans rfl)
        have S0 : Hid (WX.cell? ⟨w.heap.size + 1, 0, none⟩ = some (.int .i64 s.f0)) := Lib.hid ((blk_cell hsX 0).trans rfl)
        have S4 : Hid (WX.cell? ⟨w.heap.size + 1, 4, none⟩ = some (.slice (some ad) s.f4.length c)) := Lib.hid ((blk_cell hsX 4).trans rfl)
        have X0 : Hid (WX.cell? ⟨wr.heap.size, 0, none⟩ = some (.int .i64 x.f0)) := Lib.hid ((blk_cell hbx 0).trans rfl)
        have X1 : Hid (WX.cell? ⟨wr.heap.size, 1, none⟩ = some (.int .i64 x.f1)) := Lib.hid ((blk_cell hbx 1).trans rfl)
        have X2 : Hid (WX.cell? ⟨wr.heap.size, 2, none⟩ = some (.int .i64 x.f2.f0)) := Lib.hid ((blk_cell hbx 2).trans rfl)
        have X3 : Hid (WX.cell? ⟨wr.heap.size, 3, none⟩ = some (.int .i64 x.f2.f1)) := Lib.hid ((blk_cell hbx 3).trans rfl)
        have X4 : Hid (WX.cell? ⟨wr.heap.size, 4, none⟩ = some (.int .i64 x.f2.f2)) := Lib.hid ((blk_cell hbx 4).trans rfl)
        have X5 : Hid (WX.cell? ⟨wr.heap.size, 5, none⟩ = some (.int .i64 x.f2.f3)) := Lib.hid ((blk_cell hbx 5).trans rfl)
        have X6 : Hid (WX.cell? ⟨wr.heap.size, 6, none⟩ = some (.int .i64 x.f2.f4.f0)) := Lib.hid ((blk_cell hbx 6).trans rfl)
        have X7 : Hid (WX.cell? ⟨wr.heap.size, 7, none⟩ = some (.int .i64 x.f2.f4.f1)) := Lib.hid ((blk_cell hbx 7).trans rfl)
        have X8 : Hid (WX.cell? ⟨wr.heap.size, 8, none⟩ = some (.int .i64 x.f2.f4.f2)) := Lib.hid ((blk_cell hbx 8).trans rfl)
        have X9 : Hid (WX.cell? ⟨wr.heap.size, 9, none⟩ = some (.int .i64 x.f2.f4.f3)) := Lib.hid ((blk_cell hbx 9).trans rfl)
        have X10 : Hid (WX.cell? ⟨wr.heap.size, 10, none⟩ = some (.int .i64 x.f2.f5)) := Lib.hid ((blk_cell hbx 10).trans rfl)
        have X11 : Hid (WX.cell? ⟨wr.heap.size, 11, none⟩ = some (.int .i64 x.f2.f6)) := Lib.hid ((blk_cell hbx 11).trans rfl)
        have hrX := Kd.C_below hrw hbX
        obtain ⟨y, hy⟩ : ∃ y, rd_T46 s.f4 ((i : Int) - 1) = y := ⟨_, rfl⟩
        obtain ⟨b1, hb1⟩ : ∃ b, [x.f0, x.f1].all inB = b := ⟨_, rfl⟩
        obtain ⟨b2, d2⟩ : ∃ b, decide (x.f0 ≤ 1048576) = b := ⟨_, rfl⟩
        obtain ⟨b3, hb3⟩ : ∃ b, decide (Int.tmod x.f1 g.f1 = 0) = b := ⟨_, rfl⟩
        obtain ⟨b4, d4⟩ : ∃ b, decide (x.f1 ≤ s.f0) = b := ⟨_, rfl⟩
        obtain ⟨b5, hb5⟩ : ∃ b, closedP g x.f1 s.f0 = b := ⟨_, rfl⟩
        obtain ⟨b6, hb6⟩ : ∃ b, aggOk x.f2 = b := ⟨_, rfl⟩
        obtain ⟨b7, d7⟩ : ∃ b, ((i : Int) == 0) = b := ⟨_, rfl⟩
        obtain ⟨b8, hb8⟩ : ∃ b, decide (ordP y x < 0) = b := ⟨_, rfl⟩
        have hok : okAt g s i = (b1 && (b2 && (b3 && (b4 && (!b5 && (b6 && (b7 || b8))))))) := by
          unfold okAt
          simp only []
          rw [hx, hy, hb1, d2, hb3, d4, hb5, hb6, d7, hb8]
        rw [hok] at ho
        have d3 : (Int.tmod x.f1 g.f1 == 0) = b3 := by rw [← hb3]; rfl
        have hin2 : ∀ (A : Option Addr) (w : World), (Kd.int .i64).C w A 2 [x.f0, x.f1] → Calls Try.prog 45 #[.slice A 2 2] w fun e w' => e = .returned (.bool ([x.f0, x.f1].all inB)) ∧ w' = w := fun A w hr => within_calls A 2 [x.f0, x.f1] w hr (Nat.le_refl _) (by simp)
        have hcl := fun w => closed_calls g x.f1 s.f0 w
        have hag := fun w => aggCheck_calls x.f2 w
        have hor := fun w => order_calls y x w
        rw [hb1] at hin2
        rw [hb5] at hcl
        rw [hb6] at hag
        obtain ⟨o8, ho8⟩ : ∃ o, ordP y x = o := ⟨_, rfl⟩
        rw [ho8] at hor hb8
        replace hin2 := Lib.hid hin2
        replace hcl := Lib.hid hcl
        replace hag := Lib.hid hag
        replace hor := Lib.hid hor
        have HO := Lib.hid ho
        have HWX := Lib.hid hWX
        have HBX := Lib.hid hbX
        have HRX := Lib.hid hrX
        have HY := Lib.hid hy
        have HT := Lib.hid hgt
        have HU := Lib.hid hbw
        clear ho hWX hbX hrX hrw hbw hx hy hb1 hb3 hb5 hb6 hok hgt ho8 hgX hsX hbx hbW hg
        go_wp2
        rw [← HWX.out]
        clear x0 x1 x2 x3 x4 x5 x6 x7 x8 x9 x10 x11 z4 d1
        refine wp_region_held_drew (S := fun w_ => Below WX.heap.size WX w_) (by kernel_rfl) (below_drew (Below.refl _ _)) (fun hS_ => ?_)
        have hS : Below WX.heap.size WX _ := hS_
        clear hS_
        change wpAnyH _ _ _ _ _ 57 (lsA 57 0) _ _
        refine takeD (i := 0) (ac2 := ?aa0_1) (v := ?v0_1) (d := some 58) (ls2 := (lsA 57 1)) rfl rfl (by kernel_rfl) (by kernel_rfl) (by kernel_rfl) (fun _ _ _ h => h) (Or.inl ⟨by kernel_rfl, ?hy0_1⟩) hS (by kernel_rfl) ?ha0_1 ?_
        case hy0_1 => intro w_ hS_; first | (go_simp; done) | (go_simp; with_reducible rfl)
        case ha0_1 => simp only [Act.put, List.setIfInBounds_toArray, List.set_cons_zero, List.set_cons_succ] <;> with_reducible rfl
        refine takeD (i := 1) (ac2 := ?aa1_2) (v := ?v1_2) (d := some 59) (ls2 := (lsA 57 2)) rfl rfl (by kernel_rfl) (by kernel_rfl) (by kernel_rfl) (fun _ _ _ h => h) (Or.inl ⟨by kernel_rfl, ?hy1_2⟩) hS (by kernel_rfl) ?ha1_2 ?_
        case hy1_2 => intro w_ hS_; (replace hS_ : Below WX.heap.size WX w_ := hS_); have X0_ := below_cell hS_ X0.out; first | (go_simp; done) | (go_simp; with_reducible rfl)
        case ha1_2 => simp only [Act.put, List.setIfInBounds_toArray, List.set_cons_zero, List.set_cons_succ] <;> with_reducible rfl
        refine takeD (i := 2) (ac2 := ?aa2_3) (v := ?v2_3) (d := some 60) (ls2 := (lsA 57 3)) rfl rfl (by kernel_rfl) (by kernel_rfl) (by kernel_rfl) (fun _ _ _ h => h) (Or.inl ⟨by kernel_rfl, ?hy2_3⟩) hS (by kernel_rfl) ?ha2_3 ?_
        case hy2_3 => intro w_ hS_; first | (go_simp; done) | (go_simp; with_reducible rfl)
        case ha2_3 => simp only [Act.put, List.setIfInBounds_toArray, List.set_cons_zero, List.set_cons_succ] <;> with_reducible rfl
        refine takeD (i := 3) (ac2 := ?aa3_4) (v := ?v3_4) (d := some 61) (ls2 := (lsA 57 4)) rfl rfl (by kernel_rfl) (by kernel_rfl) (by kernel_rfl) (fun _ _ _ h => h) (Or.inl ⟨by kernel_rfl, ?hy3_4⟩) hS (by kernel_rfl) ?ha3_4 ?_
        case hy3_4 => intro w_ hS_; (replace hS_ : Below WX.heap.size WX w_ := hS_); have X1_ := below_cell hS_ X1.out; first | (go_simp; done) | (go_simp; with_reducible rfl)
        case ha3_4 => simp only [Act.put, List.setIfInBounds_toArray, List.set_cons_zero, List.set_cons_succ] <;> with_reducible rfl
        refine doD (i := 4) (ls2 := (lsA 57 5)) (by kernel_rfl) rfl (by kernel_rfl) (by kernel_rfl) (fun K hK => ?_)
        go_simp
        refine hK.out _ _ ?_ (fun hS_ => ?_)
        · show Below WX.heap.size WX _
          exact hS.alloc hS.size _
        clear hK K hS
        have hS : Below WX.heap.size WX _ := hS_
        clear hS_
        refine doD (i := 5) (ls2 := (lsA 57 6)) (by kernel_rfl) rfl (by kernel_rfl) (by kernel_rfl) (fun K hK => ?_)
        go_simp
        go_wp2_with (first | (go_at_call 45; go_loud ((with_reducible refine (hin2.out _ _ (ints_C [x.f0, x.f1] (by simp) (heap_alloc_new _ _))).mono ?_); rintro e w2 ⟨rfl, rfl⟩)))
        refine hK.out _ _ ?_ (fun hS_ => ?_)
        · show Below WX.heap.size WX _
          exact hS
        clear hK K hS
        have hS : Below WX.heap.size WX _ := hS_
        clear hS_
        refine takeD (i := 6) (ac2 := ?aa6_5) (v := ?v6_5) (d := some 64) (ls2 := (lsA 57 7)) rfl rfl (by kernel_rfl) (by kernel_rfl) (by kernel_rfl) (fun _ _ _ h => h) (Or.inl ⟨by kernel_rfl, ?hy6_5⟩) hS (by kernel_rfl) ?ha6_5 ?_
        case hy6_5 => intro w_ hS_; first | (go_simp; done) | (go_simp; with_reducible rfl)
        case ha6_5 => simp only [Act.put, List.setIfInBounds_toArray, List.set_cons_zero, List.set_cons_succ] <;> with_reducible rfl
        cases b1 with
        | false =>
          refine takeD (i := 7) (ac2 := ?aa7_6) (v := undef) (d := some 65) (ls2 := (lsA 57 8)) rfl rfl (by kernel_rfl) (by kernel_rfl) (by kernel_rfl) (fun _ _ _ h => h) (Or.inr ⟨by kernel_rfl, rfl⟩) hS (by kernel_rfl) ?ha7_6 ?_
          case ha7_6 => simp only [Act.put, List.setIfInBounds_toArray, List.set_cons_zero, List.set_cons_succ] <;> with_reducible rfl
          refine takeD (i := 8) (ac2 := ?aa8_7) (v := undef) (d := some 66) (ls2 := (lsA 57 9)) rfl rfl (by kernel_rfl) (by kernel_rfl) (by kernel_rfl) (fun _ _ _ h => h) (Or.inr ⟨by kernel_rfl, rfl⟩) hS (by kernel_rfl) ?ha8_7 ?_
          case ha8_7 => simp only [Act.put, List.setIfInBounds_toArray, List.set_cons_zero, List.set_cons_succ] <;> with_reducible rfl
          refine takeD (i := 9) (ac2 := ?aa9_8) (v := undef) (d := some 67) (ls2 := (lsA 57 10)) rfl rfl (by kernel_rfl) (by kernel_rfl) (by kernel_rfl) (fun _ _ _ h => h) (Or.inr ⟨by kernel_rfl, rfl⟩) hS (by kernel_rfl) ?ha9_8 ?_
          case ha9_8 => simp only [Act.put, List.setIfInBounds_toArray, List.set_cons_zero, List.set_cons_succ] <;> with_reducible rfl
          refine takeD (i := 10) (ac2 := ?aa10_9) (v := ?v10_9) (d := some 68) (ls2 := (lsA 57 11)) rfl rfl (by kernel_rfl) (by kernel_rfl) (by kernel_rfl) (fun _ _ _ h => h) (Or.inl ⟨by kernel_rfl, ?hy10_9⟩) hS (by kernel_rfl) ?ha10_9 ?_
          case hy10_9 => intro w_ hS_; first | (go_simp; done) | (go_simp; with_reducible rfl)
          case ha10_9 => simp only [Act.put, List.setIfInBounds_toArray, List.set_cons_zero, List.set_cons_succ] <;> with_reducible rfl
          refine takeD (i := 11) (ac2 := ?aa11_10) (v := ?v11_10) (d := some 69) (ls2 := (lsA 57 12)) rfl rfl (by kernel_rfl) (by kernel_rfl) (by kernel_rfl) (fun _ _ _ h => h) (Or.inl ⟨by kernel_rfl, ?hy11_10⟩) hS (by kernel_rfl) ?ha11_10 ?_
          case hy11_10 => intro w_ hS_; first | (go_simp; done) | (go_simp; with_reducible rfl)
          case ha11_10 => simp only [Act.put, List.setIfInBounds_toArray, List.set_cons_zero, List.set_cons_succ] <;> with_reducible rfl
          refine takeD (i := 12) (ac2 := ?aa12_11) (v := undef) (d := some 70) (ls2 := (lsA 57 13)) rfl rfl (by kernel_rfl) (by kernel_rfl) (by kernel_rfl) (fun _ _ _ h => h) (Or.inr ⟨by kernel_rfl, rfl⟩) hS (by kernel_rfl) ?ha12_11 ?_
          case ha12_11 => simp only [Act.put, List.setIfInBounds_toArray, List.set_cons_zero, List.set_cons_succ] <;> with_reducible rfl
          refine takeD (i := 13) (ac2 := ?aa13_12) (v := undef) (d := some 71) (ls2 := (lsA 57 14)) rfl rfl (by kernel_rfl) (by kernel_rfl) (by kernel_rfl) (fun _ _ _ h => h) (Or.inr ⟨by kernel_rfl, rfl⟩) hS (by kernel_rfl) ?ha13_12 ?_
          case ha13_12 => simp only [Act.put, List.setIfInBounds_toArray, List.set_cons_zero, List.set_cons_succ] <;> with_reducible rfl
          refine takeD (i := 14) (ac2 := ?aa14_13) (v := undef) (d := some 72) (ls2 := (lsA 57 15)) rfl rfl (by kernel_rfl) (by kernel_rfl) (by kernel_rfl) (fun _ _ _ h => h) (Or.inr ⟨by kernel_rfl, rfl⟩) hS (by kernel_rfl) ?ha14_13 ?_
          case ha14_13 => simp only [Act.put, List.setIfInBounds_toArray, List.set_cons_zero, List.set_cons_succ] <;> with_reducible rfl
          refine takeD (i := 15) (ac2 := ?aa15_14) (v := undef) (d := some 73) (ls2 := (lsA 57 16)) rfl rfl (by kernel_rfl) (by kernel_rfl) (by kernel_rfl) (fun _ _ _ h => h) (Or.inr ⟨by kernel_rfl, rfl⟩) hS (by kernel_rfl) ?ha15_14 ?_
          case ha15_14 => simp only [Act.put, List.setIfInBounds_toArray, List.set_cons_zero, List.set_cons_succ] <;> with_reducible rfl
          refine takeD (i := 16) (ac2 := ?aa16_15) (v := undef) (d := some 74) (ls2 := (lsA 57 17)) rfl rfl (by kernel_rfl) (by kernel_rfl) (by kernel_rfl) (fun _ _ _ h => h) (Or.inr ⟨by kernel_rfl, rfl⟩) hS (by kernel_rfl) ?ha16_15 ?_
          case ha16_15 => simp only [Act.put, List.setIfInBounds_toArray, List.set_cons_zero, List.set_cons_succ] <;> with_reducible rfl
          refine takeD (i := 17) (ac2 := ?aa17_16) (v := undef) (d := some 75) (ls2 := (lsA 57 18)) rfl rfl (by kernel_rfl) (by kernel_rfl) (by kernel_rfl) (fun _ _ _ h => h) (Or.inr ⟨by kernel_rfl, rfl⟩) hS (by kernel_rfl) ?ha17_16 ?_
          case ha17_16 => simp only [Act.put, List.setIfInBounds_toArray, List.set_cons_zero, List.set_cons_succ] <;> with_reducible rfl
          refine takeD (i := 18) (ac2 := ?aa18_17) (v := ?v18_17) (d := some 76) (ls2 := (lsA 57 19)) rfl rfl (by kernel_rfl) (by kernel_rfl) (by kernel_rfl) (fun _ _ _ h => h) (Or.inl ⟨by kernel_rfl, ?hy18_17⟩) hS (by kernel_rfl) ?ha18_17 ?_
          case hy18_17 => intro w_ hS_; first | (go_simp; done) | (go_simp; with_reducible rfl)
          case ha18_17 => simp only [Act.put, List.setIfInBounds_toArray, List.set_cons_zero, List.set_cons_succ] <;> with_reducible rfl
          refine takeD (i := 19) (ac2 := ?aa19_18) (v := ?v19_18) (d := some 77) (ls2 := (lsA 57 20)) rfl rfl (by kernel_rfl) (by kernel_rfl) (by kernel_rfl) (fun _ _ _ h => h) (Or.inl ⟨by kernel_rfl, ?hy19_18⟩) hS (by kernel_rfl) ?ha19_18 ?_
          case hy19_18 => intro w_ hS_; first | (go_simp; done) | (go_simp; with_reducible rfl)
          case ha19_18 => simp only [Act.put, List.setIfInBounds_toArray, List.set_cons_zero, List.set_cons_succ] <;> with_reducible rfl
          refine takeD (i := 20) (ac2 := ?aa20_19) (v := undef) (d := some 78) (ls2 := (lsA 57 21)) rfl rfl (by kernel_rfl) (by kernel_rfl) (by kernel_rfl) (fun _ _ _ h => h) (Or.inr ⟨by kernel_rfl, rfl⟩) hS (by kernel_rfl) ?ha20_19 ?_
          case ha20_19 => simp only [Act.put, List.setIfInBounds_toArray, List.set_cons_zero, List.set_cons_succ] <;> with_reducible rfl
          refine takeD (i := 21) (ac2 := ?aa21_20) (v := undef) (d := some 79) (ls2 := (lsA 57 22)) rfl rfl (by kernel_rfl) (by kernel_rfl) (by kernel_rfl) (fun _ _ _ h => h) (Or.inr ⟨by kernel_rfl, rfl⟩) hS (by kernel_rfl) ?ha21_20 ?_
          case ha21_20 => simp only [Act.put, List.setIfInBounds_toArray, List.set_cons_zero, List.set_cons_succ] <;> with_reducible rfl
          refine takeD (i := 22) (ac2 := ?aa22_21) (v := undef) (d := some 80) (ls2 := (lsA 57 23)) rfl rfl (by kernel_rfl) (by kernel_rfl) (by kernel_rfl) (fun _ _ _ h => h) (Or.inr ⟨by kernel_rfl, rfl⟩) hS (by kernel_rfl) ?ha22_21 ?_
          case ha22_21 => simp only [Act.put, List.setIfInBounds_toArray, List.set_cons_zero, List.set_cons_succ] <;> with_reducible rfl
          refine takeD (i := 23) (ac2 := ?aa23_22) (v := undef) (d := some 81) (ls2 := (lsA 57 24)) rfl rfl (by kernel_rfl) (by kernel_rfl) (by kernel_rfl) (fun _ _ _ h => h) (Or.inr ⟨by kernel_rfl, rfl⟩) hS (by kernel_rfl) ?ha23_22 ?_
          case ha23_22 => simp only [Act.put, List.setIfInBounds_toArray, List.set_cons_zero, List.set_cons_succ] <;> with_reducible rfl
          refine takeD (i := 24) (ac2 := ?aa24_23) (v := undef) (d := some 82) (ls2 := (lsA 57 25)) rfl rfl (by kernel_rfl) (by kernel_rfl) (by kernel_rfl) (fun _ _ _ h => h) (Or.inr ⟨by kernel_rfl, rfl⟩) hS (by kernel_rfl) ?ha24_23 ?_
          case ha24_23 => simp only [Act.put, List.setIfInBounds_toArray, List.set_cons_zero, List.set_cons_succ] <;> with_reducible rfl
          refine takeD (i := 25) (ac2 := ?aa25_24) (v := ?v25_24) (d := some 83) (ls2 := (lsA 57 26)) rfl rfl (by kernel_rfl) (by kernel_rfl) (by kernel_rfl) (fun _ _ _ h => h) (Or.inl ⟨by kernel_rfl, ?hy25_24⟩) hS (by kernel_rfl) ?ha25_24 ?_
          case hy25_24 => intro w_ hS_; first | (go_simp; done) | (go_simp; with_reducible rfl)
          case ha25_24 => simp only [Act.put, List.setIfInBounds_toArray, List.set_cons_zero, List.set_cons_succ] <;> with_reducible rfl
          refine takeD (i := 26) (ac2 := ?aa26_25) (v := ?v26_25) (d := some 84) (ls2 := (lsA 57 27)) rfl rfl (by kernel_rfl) (by kernel_rfl) (by kernel_rfl) (fun _ _ _ h => h) (Or.inl ⟨by kernel_rfl, ?hy26_25⟩) hS (by kernel_rfl) ?ha26_25 ?_
          case hy26_25 => intro w_ hS_; first | (go_simp; done) | (go_simp; with_reducible rfl)
          case ha26_25 => simp only [Act.put, List.setIfInBounds_toArray, List.set_cons_zero, List.set_cons_succ] <;> with_reducible rfl
          refine takeD (i := 27) (ac2 := ?aa27_26) (v := undef) (d := some 85) (ls2 := (lsA 57 28)) rfl rfl (by kernel_rfl) (by kernel_rfl) (by kernel_rfl) (fun _ _ _ h => h) (Or.inr ⟨by kernel_rfl, rfl⟩) hS (by kernel_rfl) ?ha27_26 ?_
          case ha27_26 => simp only [Act.put, List.setIfInBounds_toArray, List.set_cons_zero, List.set_cons_succ] <;> with_reducible rfl
          refine takeD (i := 28) (ac2 := ?aa28_27) (v := undef) (d := some 86) (ls2 := (lsA 57 29)) rfl rfl (by kernel_rfl) (by kernel_rfl) (by kernel_rfl) (fun _ _ _ h => h) (Or.inr ⟨by kernel_rfl, rfl⟩) hS (by kernel_rfl) ?ha28_27 ?_
          case ha28_27 => simp only [Act.put, List.setIfInBounds_toArray, List.set_cons_zero, List.set_cons_succ] <;> with_reducible rfl
          refine takeD (i := 29) (ac2 := ?aa29_28) (v := undef) (d := some 87) (ls2 := (lsA 57 30)) rfl rfl (by kernel_rfl) (by kernel_rfl) (by kernel_rfl) (fun _ _ _ h => h) (Or.inr ⟨by kernel_rfl, rfl⟩) hS (by kernel_rfl) ?ha29_28 ?_
          case ha29_28 => simp only [Act.put, List.setIfInBounds_toArray, List.set_cons_zero, List.set_cons_succ] <;> with_reducible rfl
          refine takeD (i := 30) (ac2 := ?aa30_29) (v := undef) (d := some 88) (ls2 := (lsA 57 31)) rfl rfl (by kernel_rfl) (by kernel_rfl) (by kernel_rfl) (fun _ _ _ h => h) (Or.inr ⟨by kernel_rfl, rfl⟩) hS (by kernel_rfl) ?ha30_29 ?_
          case ha30_29 => simp only [Act.put, List.setIfInBounds_toArray, List.set_cons_zero, List.set_cons_succ] <;> with_reducible rfl
          refine takeD (i := 31) (ac2 := ?aa31_30) (v := undef) (d := some 89) (ls2 := (lsA 57 32)) rfl rfl (by kernel_rfl) (by kernel_rfl) (by kernel_rfl) (fun _ _ _ h => h) (Or.inr ⟨by kernel_rfl, rfl⟩) hS (by kernel_rfl) ?ha31_30 ?_
          case ha31_30 => simp only [Act.put, List.setIfInBounds_toArray, List.set_cons_zero, List.set_cons_succ] <;> with_reducible rfl
          refine takeD (i := 32) (ac2 := ?aa32_31) (v := undef) (d := some 90) (ls2 := (lsA 57 33)) rfl rfl (by kernel_rfl) (by kernel_rfl) (by kernel_rfl) (fun _ _ _ h => h) (Or.inr ⟨by kernel_rfl, rfl⟩) hS (by kernel_rfl) ?ha32_31 ?_
          case ha32_31 => simp only [Act.put, List.setIfInBounds_toArray, List.set_cons_zero, List.set_cons_succ] <;> with_reducible rfl
          refine takeD (i := 33) (ac2 := ?aa33_32) (v := undef) (d := some 91) (ls2 := (lsA 57 34)) rfl rfl (by kernel_rfl) (by kernel_rfl) (by kernel_rfl) (fun _ _ _ h => h) (Or.inr ⟨by kernel_rfl, rfl⟩) hS (by kernel_rfl) ?ha33_32 ?_
          case ha33_32 => simp only [Act.put, List.setIfInBounds_toArray, List.set_cons_zero, List.set_cons_succ] <;> with_reducible rfl
          refine takeD (i := 34) (ac2 := ?aa34_33) (v := ?v34_33) (d := some 92) (ls2 := (lsA 57 35)) rfl rfl (by kernel_rfl) (by kernel_rfl) (by kernel_rfl) (fun _ _ _ h => h) (Or.inl ⟨by kernel_rfl, ?hy34_33⟩) hS (by kernel_rfl) ?ha34_33 ?_
          case hy34_33 => intro w_ hS_; first | (go_simp; done) | (go_simp; with_reducible rfl)
          case ha34_33 => simp only [Act.put, List.setIfInBounds_toArray, List.set_cons_zero, List.set_cons_succ] <;> with_reducible rfl
          refine takeD (i := 35) (ac2 := ?aa35_34) (v := ?v35_34) (d := some 93) (ls2 := (lsA 57 36)) rfl rfl (by kernel_rfl) (by kernel_rfl) (by kernel_rfl) (fun _ _ _ h => h) (Or.inl ⟨by kernel_rfl, ?hy35_34⟩) hS (by kernel_rfl) ?ha35_34 ?_
          case hy35_34 => intro w_ hS_; first | (go_simp; done) | (go_simp; with_reducible rfl)
          case ha35_34 => simp only [Act.put, List.setIfInBounds_toArray, List.set_cons_zero, List.set_cons_succ] <;> with_reducible rfl
          refine takeD (i := 36) (ac2 := ?aa36_35) (v := undef) (d := some 94) (ls2 := (lsA 57 37)) rfl rfl (by kernel_rfl) (by kernel_rfl) (by kernel_rfl) (fun _ _ _ h => h) (Or.inr ⟨by kernel_rfl, rfl⟩) hS (by kernel_rfl) ?ha36_35 ?_
          case ha36_35 => simp only [Act.put, List.setIfInBounds_toArray, List.set_cons_zero, List.set_cons_succ] <;> with_reducible rfl
          refine takeD (i := 37) (ac2 := ?aa37_36) (v := undef) (d := some 95) (ls2 := (lsA 57 38)) rfl rfl (by kernel_rfl) (by kernel_rfl) (by kernel_rfl) (fun _ _ _ h => h) (Or.inr ⟨by kernel_rfl, rfl⟩) hS (by kernel_rfl) ?ha37_36 ?_
          case ha37_36 => simp only [Act.put, List.setIfInBounds_toArray, List.set_cons_zero, List.set_cons_succ] <;> with_reducible rfl
          refine takeD (i := 38) (ac2 := ?aa38_37) (v := undef) (d := some 96) (ls2 := (lsA 57 39)) rfl rfl (by kernel_rfl) (by kernel_rfl) (by kernel_rfl) (fun _ _ _ h => h) (Or.inr ⟨by kernel_rfl, rfl⟩) hS (by kernel_rfl) ?ha38_37 ?_
          case ha38_37 => simp only [Act.put, List.setIfInBounds_toArray, List.set_cons_zero, List.set_cons_succ] <;> with_reducible rfl
          refine takeD (i := 39) (ac2 := ?aa39_38) (v := undef) (d := some 97) (ls2 := (lsA 57 40)) rfl rfl (by kernel_rfl) (by kernel_rfl) (by kernel_rfl) (fun _ _ _ h => h) (Or.inr ⟨by kernel_rfl, rfl⟩) hS (by kernel_rfl) ?ha39_38 ?_
          case ha39_38 => simp only [Act.put, List.setIfInBounds_toArray, List.set_cons_zero, List.set_cons_succ] <;> with_reducible rfl
          refine takeD (i := 40) (ac2 := ?aa40_39) (v := ?v40_39) (d := some 98) (ls2 := (lsA 57 41)) rfl rfl (by kernel_rfl) (by kernel_rfl) (by kernel_rfl) (fun _ _ _ h => h) (Or.inl ⟨by kernel_rfl, ?hy40_39⟩) hS (by kernel_rfl) ?ha40_39 ?_
          case hy40_39 => intro w_ hS_; first | (go_simp; done) | (go_simp; with_reducible rfl)
          case ha40_39 => simp only [Act.put, List.setIfInBounds_toArray, List.set_cons_zero, List.set_cons_succ] <;> with_reducible rfl
          refine takeD (i := 41) (ac2 := ?aa41_40) (v := ?v41_40) (d := some 99) (ls2 := (lsA 57 42)) rfl rfl (by kernel_rfl) (by kernel_rfl) (by kernel_rfl) (fun _ _ _ h => h) (Or.inl ⟨by kernel_rfl, ?hy41_40⟩) hS (by kernel_rfl) ?ha41_40 ?_
          case hy41_40 => intro w_ hS_; first | (go_simp; done) | (go_simp; with_reducible rfl)
          case ha41_40 => simp only [Act.put, List.setIfInBounds_toArray, List.set_cons_zero, List.set_cons_succ] <;> with_reducible rfl
          refine takeD (i := 42) (ac2 := ?aa42_41) (v := undef) (d := some 100) (ls2 := (lsA 57 43)) rfl rfl (by kernel_rfl) (by kernel_rfl) (by kernel_rfl) (fun _ _ _ h => h) (Or.inr ⟨by kernel_rfl, rfl⟩) hS (by kernel_rfl) ?ha42_41 ?_
          case ha42_41 => simp only [Act.put, List.setIfInBounds_toArray, List.set_cons_zero, List.set_cons_succ] <;> with_reducible rfl
          refine takeD (i := 43) (ac2 := ?aa43_42) (v := undef) (d := some 101) (ls2 := (lsA 57 44)) rfl rfl (by kernel_rfl) (by kernel_rfl) (by kernel_rfl) (fun _ _ _ h => h) (Or.inr ⟨by kernel_rfl, rfl⟩) hS (by kernel_rfl) ?ha43_42 ?_
          case ha43_42 => simp only [Act.put, List.setIfInBounds_toArray, List.set_cons_zero, List.set_cons_succ] <;> with_reducible rfl
          refine takeD (i := 44) (ac2 := ?aa44_43) (v := undef) (d := some 102) (ls2 := (lsA 57 45)) rfl rfl (by kernel_rfl) (by kernel_rfl) (by kernel_rfl) (fun _ _ _ h => h) (Or.inr ⟨by kernel_rfl, rfl⟩) hS (by kernel_rfl) ?ha44_43 ?_
          case ha44_43 => simp only [Act.put, List.setIfInBounds_toArray, List.set_cons_zero, List.set_cons_succ] <;> with_reducible rfl
          refine takeD (i := 45) (ac2 := ?aa45_44) (v := undef) (d := some 103) (ls2 := (lsA 57 46)) rfl rfl (by kernel_rfl) (by kernel_rfl) (by kernel_rfl) (fun _ _ _ h => h) (Or.inr ⟨by kernel_rfl, rfl⟩) hS (by kernel_rfl) ?ha45_44 ?_
          case ha45_44 => simp only [Act.put, List.setIfInBounds_toArray, List.set_cons_zero, List.set_cons_succ] <;> with_reducible rfl
          refine takeD (i := 46) (ac2 := ?aa46_45) (v := undef) (d := some 104) (ls2 := (lsA 57 47)) rfl rfl (by kernel_rfl) (by kernel_rfl) (by kernel_rfl) (fun _ _ _ h => h) (Or.inr ⟨by kernel_rfl, rfl⟩) hS (by kernel_rfl) ?ha46_45 ?_
          case ha46_45 => simp only [Act.put, List.setIfInBounds_toArray, List.set_cons_zero, List.set_cons_succ] <;> with_reducible rfl
          refine takeD (i := 47) (ac2 := ?aa47_46) (v := undef) (d := some 105) (ls2 := (lsA 57 48)) rfl rfl (by kernel_rfl) (by kernel_rfl) (by kernel_rfl) (fun _ _ _ h => h) (Or.inr ⟨by kernel_rfl, rfl⟩) hS (by kernel_rfl) ?ha47_46 ?_
          case ha47_46 => simp only [Act.put, List.setIfInBounds_toArray, List.set_cons_zero, List.set_cons_succ] <;> with_reducible rfl
          refine takeD (i := 48) (ac2 := ?aa48_47) (v := undef) (d := some 106) (ls2 := (lsA 57 49)) rfl rfl (by kernel_rfl) (by kernel_rfl) (by kernel_rfl) (fun _ _ _ h => h) (Or.inr ⟨by kernel_rfl, rfl⟩) hS (by kernel_rfl) ?ha48_47 ?_
          case ha48_47 => simp only [Act.put, List.setIfInBounds_toArray, List.set_cons_zero, List.set_cons_succ] <;> with_reducible rfl
          refine takeD (i := 49) (ac2 := ?aa49_48) (v := undef) (d := some 107) (ls2 := (lsA 57 50)) rfl rfl (by kernel_rfl) (by kernel_rfl) (by kernel_rfl) (fun _ _ _ h => h) (Or.inr ⟨by kernel_rfl, rfl⟩) hS (by kernel_rfl) ?ha49_48 ?_
          case ha49_48 => simp only [Act.put, List.setIfInBounds_toArray, List.set_cons_zero, List.set_cons_succ] <;> with_reducible rfl
          refine takeD (i := 50) (ac2 := ?aa50_49) (v := undef) (d := some 108) (ls2 := (lsA 57 51)) rfl rfl (by kernel_rfl) (by kernel_rfl) (by kernel_rfl) (fun _ _ _ h => h) (Or.inr ⟨by kernel_rfl, rfl⟩) hS (by kernel_rfl) ?ha50_49 ?_
          case ha50_49 => simp only [Act.put, List.setIfInBounds_toArray, List.set_cons_zero, List.set_cons_succ] <;> with_reducible rfl
          refine takeD (i := 51) (ac2 := ?aa51_50) (v := undef) (d := some 109) (ls2 := (lsA 57 52)) rfl rfl (by kernel_rfl) (by kernel_rfl) (by kernel_rfl) (fun _ _ _ h => h) (Or.inr ⟨by kernel_rfl, rfl⟩) hS (by kernel_rfl) ?ha51_50 ?_
          case ha51_50 => simp only [Act.put, List.setIfInBounds_toArray, List.set_cons_zero, List.set_cons_succ] <;> with_reducible rfl
          refine takeD (i := 52) (ac2 := ?aa52_51) (v := undef) (d := some 110) (ls2 := (lsA 57 53)) rfl rfl (by kernel_rfl) (by kernel_rfl) (by kernel_rfl) (fun _ _ _ h => h) (Or.inr ⟨by kernel_rfl, rfl⟩) hS (by kernel_rfl) ?ha52_51 ?_
          case ha52_51 => simp only [Act.put, List.setIfInBounds_toArray, List.set_cons_zero, List.set_cons_succ] <;> with_reducible rfl
          refine takeD (i := 53) (ac2 := ?aa53_52) (v := undef) (d := some 111) (ls2 := (lsA 57 54)) rfl rfl (by kernel_rfl) (by kernel_rfl) (by kernel_rfl) (fun _ _ _ h => h) (Or.inr ⟨by kernel_rfl, rfl⟩) hS (by kernel_rfl) ?ha53_52 ?_
          case ha53_52 => simp only [Act.put, List.setIfInBounds_toArray, List.set_cons_zero, List.set_cons_succ] <;> with_reducible rfl
          refine takeD (i := 54) (ac2 := ?aa54_53) (v := undef) (d := some 112) (ls2 := (lsA 57 55)) rfl rfl (by kernel_rfl) (by kernel_rfl) (by kernel_rfl) (fun _ _ _ h => h) (Or.inr ⟨by kernel_rfl, rfl⟩) hS (by kernel_rfl) ?ha54_53 ?_
          case ha54_53 => simp only [Act.put, List.setIfInBounds_toArray, List.set_cons_zero, List.set_cons_succ] <;> with_reducible rfl
          refine takeD (i := 55) (ac2 := ?aa55_54) (v := ?v55_54) (d := some 113) (ls2 := (lsA 57 56)) rfl rfl (by kernel_rfl) (by kernel_rfl) (by kernel_rfl) (fun _ _ _ h => h) (Or.inl ⟨by kernel_rfl, ?hy55_54⟩) hS (by kernel_rfl) ?ha55_54 ?_
          case hy55_54 => intro w_ hS_; first | (go_simp; done) | (go_simp; with_reducible rfl)
          case ha55_54 => simp only [Act.put, List.setIfInBounds_toArray, List.set_cons_zero, List.set_cons_succ] <;> with_reducible rfl
          refine takeD (i := 56) (ac2 := ?aa56_55) (v := ?v56_55) (d := some 5) (ls2 := (lsA 57 57)) rfl rfl (by kernel_rfl) (by kernel_rfl) (by kernel_rfl) (fun _ _ _ h => h) (Or.inl ⟨by kernel_rfl, ?hy56_55⟩) hS (by kernel_rfl) ?ha56_55 ?_
          case hy56_55 => intro w_ hS_; first | (go_simp; done) | (go_simp; with_reducible rfl)
          case ha56_55 => simp only [Act.put, List.setIfInBounds_toArray, List.set_cons_zero, List.set_cons_succ] <;> with_reducible rfl
          refine wpAnyH_done (by kernel_rfl) ?_ _
          try go_simp
          go_wp2
          go_roundg gk
          case measure => omega
          case rel =>
            have hu := HU.out
            have hs := hS
            refine ⟨i + 1, _, rfl, by first | rfl | (congr 1), by omega, by omega, HO.out, fun _ => HT.out, hu.trans ((HBX.out.trans (hs.mono HBX.out.size)).mono hu.size)⟩
        | true =>
          refine takeD (i := 7) (ac2 := ?aa7_56) (v := ?v7_56) (d := some 65) (ls2 := (lsA 57 8)) rfl rfl (by kernel_rfl) (by kernel_rfl) (by kernel_rfl) (fun _ _ _ h => h) (Or.inl ⟨by kernel_rfl, ?hy7_56⟩) hS (by kernel_rfl) ?ha7_56 ?_
          case hy7_56 => intro w_ hS_; first | (go_simp; done) | (go_simp; with_reducible rfl)
          case ha7_56 => simp only [Act.put, List.setIfInBounds_toArray, List.set_cons_zero, List.set_cons_succ] <;> with_reducible rfl
          refine takeD (i := 8) (ac2 := ?aa8_57) (v := ?v8_57) (d := some 66) (ls2 := (lsA 57 9)) rfl rfl (by kernel_rfl) (by kernel_rfl) (by kernel_rfl) (fun _ _ _ h => h) (Or.inl ⟨by kernel_rfl, ?hy8_57⟩) hS (by kernel_rfl) ?ha8_57 ?_
          case hy8_57 => intro w_ hS_; (replace hS_ : Below WX.heap.size WX w_ := hS_); have X0_ := below_cell hS_ X0.out; first | (go_simp; done) | (go_simp; with_reducible rfl)
          case ha8_57 => simp only [Act.put, List.setIfInBounds_toArray, List.set_cons_zero, List.set_cons_succ] <;> with_reducible rfl
          refine takeD (i := 9) (ac2 := ?aa9_58) (v := ?v9_58) (d := some 67) (ls2 := (lsA 57 10)) rfl rfl (by kernel_rfl) (by kernel_rfl) (by kernel_rfl) (fun _ _ _ h => h) (Or.inl ⟨by kernel_rfl, ?hy9_58⟩) hS (by kernel_rfl) ?ha9_58 ?_
          case hy9_58 => intro w_ hS_; first | (go_simp; done) | (go_simp; with_reducible rfl)
          case ha9_58 => simp only [Act.put, List.setIfInBounds_toArray, List.set_cons_zero, List.set_cons_succ] <;> with_reducible rfl
          refine takeD (i := 10) (ac2 := ?aa10_59) (v := ?v10_59) (d := some 68) (ls2 := (lsA 57 11)) rfl rfl (by kernel_rfl) (by kernel_rfl) (by kernel_rfl) (fun _ _ _ h => h) (Or.inl ⟨by kernel_rfl, ?hy10_59⟩) hS (by kernel_rfl) ?ha10_59 ?_
          case hy10_59 => intro w_ hS_; first | (go_simp; done) | (go_simp; with_reducible rfl)
          case ha10_59 => simp only [Act.put, List.setIfInBounds_toArray, List.set_cons_zero, List.set_cons_succ] <;> with_reducible rfl
          refine takeD (i := 11) (ac2 := ?aa11_60) (v := ?v11_60) (d := some 69) (ls2 := (lsA 57 12)) rfl rfl (by kernel_rfl) (by kernel_rfl) (by kernel_rfl) (fun _ _ _ h => h) (Or.inl ⟨by kernel_rfl, ?hy11_60⟩) hS (by kernel_rfl) ?ha11_60 ?_
          case hy11_60 => intro w_ hS_; first | (go_simp; done) | (go_simp; with_reducible rfl)
          case ha11_60 => simp only [Act.put, List.setIfInBounds_toArray, List.set_cons_zero, List.set_cons_succ] <;> with_reducible rfl
          cases b2 with
          | false =>
            refine takeD (i := 12) (ac2 := ?aa12_61) (v := undef) (d := some 70) (ls2 := (lsA 57 13)) rfl rfl (by kernel_rfl) (by kernel_rfl) (by kernel_rfl) (fun _ _ _ h => h) (Or.inr ⟨by kernel_rfl, rfl⟩) hS (by kernel_rfl) ?ha12_61 ?_
            case ha12_61 => simp only [Act.put, List.setIfInBounds_toArray, List.set_cons_zero, List.set_cons_succ] <;> with_reducible rfl
            refine takeD (i := 13) (ac2 := ?aa13_62) (v := undef) (d := some 71) (ls2 := (lsA 57 14)) rfl rfl (by kernel_rfl) (by kernel_rfl) (by kernel_rfl) (fun _ _ _ h => h) (Or.inr ⟨by kernel_rfl, rfl⟩) hS (by kernel_rfl) ?ha13_62 ?_
            case ha13_62 => simp only [Act.put, List.setIfInBounds_toArray, List.set_cons_zero, List.set_cons_succ] <;> with_reducible rfl
            refine takeD (i := 14) (ac2 := ?aa14_63) (v := undef) (d := some 72) (ls2 := (lsA 57 15)) rfl rfl (by kernel_rfl) (by kernel_rfl) (by kernel_rfl) (fun _ _ _ h => h) (Or.inr ⟨by kernel_rfl, rfl⟩) hS (by kernel_rfl) ?ha14_63 ?_
            case ha14_63 => simp only [Act.put, List.setIfInBounds_toArray, List.set_cons_zero, List.set_cons_succ] <;> with_reducible rfl
            refine takeD (i := 15) (ac2 := ?aa15_64) (v := undef) (d := some 73) (ls2 := (lsA 57 16)) rfl rfl (by kernel_rfl) (by kernel_rfl) (by kernel_rfl) (fun _ _ _ h => h) (Or.inr ⟨by kernel_rfl, rfl⟩) hS (by kernel_rfl) ?ha15_64 ?_
            case ha15_64 => simp only [Act.put, List.setIfInBounds_toArray, List.set_cons_zero, List.set_cons_succ] <;> with_reducible rfl
            refine takeD (i := 16) (ac2 := ?aa16_65) (v := undef) (d := some 74) (ls2 := (lsA 57 17)) rfl rfl (by kernel_rfl) (by kernel_rfl) (by kernel_rfl) (fun _ _ _ h => h) (Or.inr ⟨by kernel_rfl, rfl⟩) hS (by kernel_rfl) ?ha16_65 ?_
            case ha16_65 => simp only [Act.put, List.setIfInBounds_toArray, List.set_cons_zero, List.set_cons_succ] <;> with_reducible rfl
            refine takeD (i := 17) (ac2 := ?aa17_66) (v := undef) (d := some 75) (ls2 := (lsA 57 18)) rfl rfl (by kernel_rfl) (by kernel_rfl) (by kernel_rfl) (fun _ _ _ h => h) (Or.inr ⟨by kernel_rfl, rfl⟩) hS (by kernel_rfl) ?ha17_66 ?_
            case ha17_66 => simp only [Act.put, List.setIfInBounds_toArray, List.set_cons_zero, List.set_cons_succ] <;> with_reducible rfl
            refine takeD (i := 18) (ac2 := ?aa18_67) (v := ?v18_67) (d := some 76) (ls2 := (lsA 57 19)) rfl rfl (by kernel_rfl) (by kernel_rfl) (by kernel_rfl) (fun _ _ _ h => h) (Or.inl ⟨by kernel_rfl, ?hy18_67⟩) hS (by kernel_rfl) ?ha18_67 ?_
            case hy18_67 => intro w_ hS_; first | (go_simp; done) | (go_simp; with_reducible rfl)
            case ha18_67 => simp only [Act.put, List.setIfInBounds_toArray, List.set_cons_zero, List.set_cons_succ] <;> with_reducible rfl
            refine takeD (i := 19) (ac2 := ?aa19_68) (v := ?v19_68) (d := some 77) (ls2 := (lsA 57 20)) rfl rfl (by kernel_rfl) (by kernel_rfl) (by kernel_rfl) (fun _ _ _ h => h) (Or.inl ⟨by kernel_rfl, ?hy19_68⟩) hS (by kernel_rfl) ?ha19_68 ?_
            case hy19_68 => intro w_ hS_; first | (go_simp; done) | (go_simp; with_reducible rfl)
            case ha19_68 => simp only [Act.put, List.setIfInBounds_toArray, List.set_cons_zero, List.set_cons_succ] <;> with_reducible rfl
            refine takeD (i := 20) (ac2 := ?aa20_69) (v := undef) (d := some 78) (ls2 := (lsA 57 21)) rfl rfl (by kernel_rfl) (by kernel_rfl) (by kernel_rfl) (fun _ _ _ h => h) (Or.inr ⟨by kernel_rfl, rfl⟩) hS (by kernel_rfl) ?ha20_69 ?_
            case ha20_69 => simp only [Act.put, List.setIfInBounds_toArray, List.set_cons_zero, List.set_cons_succ] <;> with_reducible rfl
            refine takeD (i := 21) (ac2 := ?aa21_70) (v := undef) (d := some 79) (ls2 := (lsA 57 22)) rfl rfl (by kernel_rfl) (by kernel_rfl) (by kernel_rfl) (fun _ _ _ h => h) (Or.inr ⟨by kernel_rfl, rfl⟩) hS (by kernel_rfl) ?ha21_70 ?_
            case ha21_70 => simp only [Act.put, List.setIfInBounds_toArray, List.set_cons_zero, List.set_cons_succ] <;> with_reducible rfl
            refine takeD (i := 22) (ac2 := ?aa22_71) (v := undef) (d := some 80) (ls2 := (lsA 57 23)) rfl rfl (by kernel_rfl) (by kernel_rfl) (by kernel_rfl) (fun _ _ _ h => h) (Or.inr ⟨by kernel_rfl, rfl⟩) hS (by kernel_rfl) ?ha22_71 ?_
            case ha22_71 => simp only [Act.put, List.setIfInBounds_toArray, List.set_cons_zero, List.set_cons_succ] <;> with_reducible rfl
            refine takeD (i := 23) (ac2 := ?aa23_72) (v := undef) (d := some 81) (ls2 := (lsA 57 24)) rfl rfl (by kernel_rfl) (by kernel_rfl) (by kernel_rfl) (fun _ _ _ h => h) (Or.inr ⟨by kernel_rfl, rfl⟩) hS (by kernel_rfl) ?ha23_72 ?_
            case ha23_72 => simp only [Act.put, List.setIfInBounds_toArray, List.set_cons_zero, List.set_cons_succ] <;> with_reducible rfl
            refine takeD (i := 24) (ac2 := ?aa24_73) (v := undef) (d := some 82) (ls2 := (lsA 57 25)) rfl rfl (by kernel_rfl) (by kernel_rfl) (by kernel_rfl) (fun _ _ _ h => h) (Or.inr ⟨by kernel_rfl, rfl⟩) hS (by kernel_rfl) ?ha24_73 ?_
            case ha24_73 => simp only [Act.put, List.setIfInBounds_toArray, List.set_cons_zero, List.set_cons_succ] <;> with_reducible rfl
            refine takeD (i := 25) (ac2 := ?aa25_74) (v := ?v25_74) (d := some 83) (ls2 := (lsA 57 26)) rfl rfl (by kernel_rfl) (by kernel_rfl) (by kernel_rfl) (fun _ _ _ h => h) (Or.inl ⟨by kernel_rfl, ?hy25_74⟩) hS (by kernel_rfl) ?ha25_74 ?_
            case hy25_74 => intro w_ hS_; first | (go_simp; done) | (go_simp; with_reducible rfl)
            case ha25_74 => simp only [Act.put, List.setIfInBounds_toArray, List.set_cons_zero, List.set_cons_succ] <;> with_reducible rfl
            refine takeD (i := 26) (ac2 := ?aa26_75) (v := ?v26_75) (d := some 84) (ls2 := (lsA 57 27)) rfl rfl (by kernel_rfl) (by kernel_rfl) (by kernel_rfl) (fun _ _ _ h => h) (Or.inl ⟨by kernel_rfl, ?hy26_75⟩) hS (by kernel_rfl) ?ha26_75 ?_
            case hy26_75 => intro w_ hS_; first | (go_simp; done) | (go_simp; with_reducible rfl)
            case ha26_75 => simp only [Act.put, List.setIfInBounds_toArray, List.set_cons_zero, List.set_cons_succ] <;> with_reducible rfl
            refine takeD (i := 27) (ac2 := ?aa27_76) (v := undef) (d := some 85) (ls2 := (lsA 57 28)) rfl rfl (by kernel_rfl) (by kernel_rfl) (by kernel_rfl) (fun _ _ _ h => h) (Or.inr ⟨by kernel_rfl, rfl⟩) hS (by kernel_rfl) ?ha27_76 ?_
            case ha27_76 => simp only [Act.put, List.setIfInBounds_toArray, List.set_cons_zero, List.set_cons_succ] <;> with_reducible rfl
            refine takeD (i := 28) (ac2 := ?aa28_77) (v := undef) (d := some 86) (ls2 := (lsA 57 29)) rfl rfl (by kernel_rfl) (by kernel_rfl) (by kernel_rfl) (fun _ _ _ h => h) (Or.inr ⟨by kernel_rfl, rfl⟩) hS (by kernel_rfl) ?ha28_77 ?_
            case ha28_77 => simp only [Act.put, List.setIfInBounds_toArray, List.set_cons_zero, List.set_cons_succ] <;> with_reducible rfl
            refine takeD (i := 29) (ac2 := ?aa29_78) (v := undef) (d := some 87) (ls2 := (lsA 57 30)) rfl rfl (by kernel_rfl) (by kernel_rfl) (by kernel_rfl) (fun _ _ _ h => h) (Or.inr ⟨by kernel_rfl, rfl⟩) hS (by kernel_rfl) ?ha29_78 ?_
            case ha29_78 => simp only [Act.put, List.setIfInBounds_toArray, List.set_cons_zero, List.set_cons_succ] <;> with_reducible rfl
            refine takeD (i := 30) (ac2 := ?aa30_79) (v := undef) (d := some 88) (ls2 := (lsA 57 31)) rfl rfl (by kernel_rfl) (by kernel_rfl) (by kernel_rfl) (fun _ _ _ h => h) (Or.inr ⟨by kernel_rfl, rfl⟩) hS (by kernel_rfl) ?ha30_79 ?_
            case ha30_79 => simp only [Act.put, List.setIfInBounds_toArray, List.set_cons_zero, List.set_cons_succ] <;> with_reducible rfl
            refine takeD (i := 31) (ac2 := ?aa31_80) (v := undef) (d := some 89) (ls2 := (lsA 57 32)) rfl rfl (by kernel_rfl) (by kernel_rfl) (by kernel_rfl) (fun _ _ _ h => h) (Or.inr ⟨by kernel_rfl, rfl⟩) hS (by kernel_rfl) ?ha31_80 ?_
            case ha31_80 => simp only [Act.put, List.setIfInBounds_toArray, List.set_cons_zero, List.set_cons_succ] <;> with_reducible rfl
            refine takeD (i := 32) (ac2 := ?aa32_81) (v := undef) (d := some 90) (ls2 := (lsA 57 33)) rfl rfl (by kernel_rfl) (by kernel_rfl) (by kernel_rfl) (fun _ _ _ h => h) (Or.inr ⟨by kernel_rfl, rfl⟩) hS (by kernel_rfl) ?ha32_81 ?_
            case ha32_81 => simp only [Act.put, List.setIfInBounds_toArray, List.set_cons_zero, List.set_cons_succ] <;> with_reducible rfl
            refine takeD (i := 33) (ac2 := ?aa33_82) (v := undef) (d := some 91) (ls2 := (lsA 57 34)) rfl rfl (by kernel_rfl) (by kernel_rfl) (by kernel_rfl) (fun _ _ _ h => h) (Or.inr ⟨by kernel_rfl, rfl⟩) hS (by kernel_rfl) ?ha33_82 ?_
            case ha33_82 => simp only [Act.put, List.setIfInBounds_toArray, List.set_cons_zero, List.set_cons_succ] <;> with_reducible rfl
            refine takeD (i := 34) (ac2 := ?aa34_83) (v := ?v34_83) (d := some 92) (ls2 := (lsA 57 35)) rfl rfl (by kernel_rfl) (by kernel_rfl) (by kernel_rfl) (fun _ _ _ h => h) (Or.inl ⟨by kernel_rfl, ?hy34_83⟩) hS (by kernel_rfl) ?ha34_83 ?_
            case hy34_83 => intro w_ hS_; first | (go_simp; done) | (go_simp; with_reducible rfl)
            case ha34_83 => simp only [Act.put, List.setIfInBounds_toArray, List.set_cons_zero, List.set_cons_succ] <;> with_reducible rfl
            refine takeD (i := 35) (ac2 := ?aa35_84) (v := ?v35_84) (d := some 93) (ls2 := (lsA 57 36)) rfl rfl (by kernel_rfl) (by kernel_rfl) (by kernel_rfl) (fun _ _ _ h => h) (Or.inl ⟨by kernel_rfl, ?hy35_84⟩) hS (by kernel_rfl) ?ha35_84 ?_
            case hy35_84 => intro w_ hS_; first | (go_simp; done) | (go_simp; with_reducible rfl)
            case ha35_84 => simp only [Act.put, List.setIfInBounds_toArray, List.set_cons_zero, List.set_cons_succ] <;> with_reducible rfl
            refine takeD (i := 36) (ac2 := ?aa36_85) (v := undef) (d := some 94) (ls2 := (lsA 57 37)) rfl rfl (by kernel_rfl) (by kernel_rfl) (by kernel_rfl) (fun _ _ _ h => h) (Or.inr ⟨by kernel_rfl, rfl⟩) hS (by kernel_rfl) ?ha36_85 ?_
            case ha36_85 => simp only [Act.put, List.setIfInBounds_toArray, List.set_cons_zero, List.set_cons_succ] <;> with_reducible rfl
            refine takeD (i := 37) (ac2 := ?aa37_86) (v := undef) (d := some 95) (ls2 := (lsA 57 38)) rfl rfl (by kernel_rfl) (by kernel_rfl) (by kernel_rfl) (fun _ _ _ h => h) (Or.inr ⟨by kernel_rfl, rfl⟩) hS (by kernel_rfl) ?ha37_86 ?_
            case ha37_86 => simp only [Act.put, List.setIfInBounds_toArray, List.set_cons_zero, List.set_cons_succ] <;> with_reducible rfl
            refine takeD (i := 38) (ac2 := ?aa38_87) (v := undef) (d := some 96) (ls2 := (lsA 57 39)) rfl rfl (by kernel_rfl) (by kernel_rfl) (by kernel_rfl) (fun _ _ _ h => h) (Or.inr ⟨by kernel_rfl, rfl⟩) hS (by kernel_rfl) ?ha38_87 ?_
            case ha38_87 => simp only [Act.put, List.setIfInBounds_toArray, List.set_cons_zero, List.set_cons_succ] <;> with_reducible rfl
            refine takeD (i := 39) (ac2 := ?aa39_88) (v := undef) (d := some 97) (ls2 := (lsA 57 40)) rfl rfl (by kernel_rfl) (by kernel_rfl) (by kernel_rfl) (fun _ _ _ h => h) (Or.inr ⟨by kernel_rfl, rfl⟩) hS (by kernel_rfl) ?ha39_88 ?_
            case ha39_88 => simp only [Act.put, List.setIfInBounds_toArray, List.set_cons_zero, List.set_cons_succ] <;> with_reducible rfl
            refine takeD (i := 40) (ac2 := ?aa40_89) (v := ?v40_89) (d := some 98) (ls2 := (lsA 57 41)) rfl rfl (by kernel_rfl) (by kernel_rfl) (by kernel_rfl) (fun _ _ _ h => h) (Or.inl ⟨by kernel_rfl, ?hy40_89⟩) hS (by kernel_rfl) ?ha40_89 ?_
            case hy40_89 => intro w_ hS_; first | (go_simp; done) | (go_simp; with_reducible rfl)
            case ha40_89 => simp only [Act.put, List.setIfInBounds_toArray, List.set_cons_zero, List.set_cons_succ] <;> with_reducible rfl
            refine takeD (i := 41) (ac2 := ?aa41_90) (v := ?v41_90) (d := some 99) (ls2 := (lsA 57 42)) rfl rfl (by kernel_rfl) (by kernel_rfl) (by kernel_rfl) (fun _ _ _ h => h) (Or.inl ⟨by kernel_rfl, ?hy41_90⟩) hS (by kernel_rfl) ?ha41_90 ?_
            case hy41_90 => intro w_ hS_; first | (go_simp; done) | (go_simp; with_reducible rfl)
            case ha41_90 => simp only [Act.put, List.setIfInBounds_toArray, List.set_cons_zero, List.set_cons_succ] <;> with_reducible rfl
            refine takeD (i := 42) (ac2 := ?aa42_91) (v := undef) (d := some 100) (ls2 := (lsA 57 43)) rfl rfl (by kernel_rfl) (by kernel_rfl) (by kernel_rfl) (fun _ _ _ h => h) (Or.inr ⟨by kernel_rfl, rfl⟩) hS (by kernel_rfl) ?ha42_91 ?_
            case ha42_91 => simp only [Act.put, List.setIfInBounds_toArray, List.set_cons_zero, List.set_cons_succ] <;> with_reducible rfl
            refine takeD (i := 43) (ac2 := ?aa43_92) (v := undef) (d := some 101) (ls2 := (lsA 57 44)) rfl rfl (by kernel_rfl) (by kernel_rfl) (by kernel_rfl) (fun _ _ _ h => h) (Or.inr ⟨by kernel_rfl, rfl⟩) hS (by kernel_rfl) ?ha43_92 ?_
            case ha43_92 => simp only [Act.put, List.setIfInBounds_toArray, List.set_cons_zero, List.set_cons_succ] <;> with_reducible rfl
            refine takeD (i := 44) (ac2 := ?aa44_93) (v := undef) (d := some 102) (ls2 := (lsA 57 45)) rfl rfl (by kernel_rfl) (by kernel_rfl) (by kernel_rfl) (fun _ _ _ h => h) (Or.inr ⟨by kernel_rfl, rfl⟩) hS (by kernel_rfl) ?ha44_93 ?_
            case ha44_93 => simp only [Act.put, List.setIfInBounds_toArray, List.set_cons_zero, List.set_cons_succ] <;> with_reducible rfl
            refine takeD (i := 45) (ac2 := ?aa45_94) (v := undef) (d := some 103) (ls2 := (lsA 57 46)) rfl rfl (by kernel_rfl) (by kernel_rfl) (by kernel_rfl) (fun _ _ _ h => h) (Or.inr ⟨by kernel_rfl, rfl⟩) hS (by kernel_rfl) ?ha45_94 ?_
            case ha45_94 => simp only [Act.put, List.setIfInBounds_toArray, List.set_cons_zero, List.set_cons_succ] <;> with_reducible rfl
            refine takeD (i := 46) (ac2 := ?aa46_95) (v := undef) (d := some 104) (ls2 := (lsA 57 47)) rfl rfl (by kernel_rfl) (by kernel_rfl) (by kernel_rfl) (fun _ _ _ h => h) (Or.inr ⟨by kernel_rfl, rfl⟩) hS (by kernel_rfl) ?ha46_95 ?_
            case ha46_95 => simp only [Act.put, List.setIfInBounds_toArray, List.set_cons_zero, List.set_cons_succ] <;> with_reducible rfl
            refine takeD (i := 47) (ac2 := ?aa47_96) (v := undef) (d := some 105) (ls2 := (lsA 57 48)) rfl rfl (by kernel_rfl) (by kernel_rfl) (by kernel_rfl) (fun _ _ _ h => h) (Or.inr ⟨by kernel_rfl, rfl⟩) hS (by kernel_rfl) ?ha47_96 ?_
            case ha47_96 => simp only [Act.put, List.setIfInBounds_toArray, List.set_cons_zero, List.set_cons_succ] <;> with_reducible rfl
            refine takeD (i := 48) (ac2 := ?aa48_97) (v := undef) (d := some 106) (ls2 := (lsA 57 49)) rfl rfl (by kernel_rfl) (by kernel_rfl) (by kernel_rfl) (fun _ _ _ h => h) (Or.inr ⟨by kernel_rfl, rfl⟩) hS (by kernel_rfl) ?ha48_97 ?_
            case ha48_97 => simp only [Act.put, List.setIfInBounds_toArray, List.set_cons_zero, List.set_cons_succ] <;> with_reducible rfl
            refine takeD (i := 49) (ac2 := ?aa49_98) (v := undef) (d := some 107) (ls2 := (lsA 57 50)) rfl rfl (by kernel_rfl) (by kernel_rfl) (by kernel_rfl) (fun _ _ _ h => h) (Or.inr ⟨by kernel_rfl, rfl⟩) hS (by kernel_rfl) ?ha49_98 ?_
            case ha49_98 => simp only [Act.put, List.setIfInBounds_toArray, List.set_cons_zero, List.set_cons_succ] <;> with_reducible rfl
            refine takeD (i := 50) (ac2 := ?aa50_99) (v := undef) (d := some 108) (ls2 := (lsA 57 51)) rfl rfl (by kernel_rfl) (by kernel_rfl) (by kernel_rfl) (fun _ _ _ h => h) (Or.inr ⟨by kernel_rfl, rfl⟩) hS (by kernel_rfl) ?ha50_99 ?_
            case ha50_99 => simp only [Act.put, List.setIfInBounds_toArray, List.set_cons_zero, List.set_cons_succ] <;> with_reducible rfl
            refine takeD (i := 51) (ac2 := ?aa51_100) (v := undef) (d := some 109) (ls2 := (lsA 57 52)) rfl rfl (by kernel_rfl) (by kernel_rfl) (by kernel_rfl) (fun _ _ _ h => h) (Or.inr ⟨by kernel_rfl, rfl⟩) hS (by kernel_rfl) ?ha51_100 ?_
            case ha51_100 => simp only [Act.put, List.setIfInBounds_toArray, List.set_cons_zero, List.set_cons_succ] <;> with_reducible rfl
            refine takeD (i := 52) (ac2 := ?aa52_101) (v := undef) (d := some 110) (ls2 := (lsA 57 53)) rfl rfl (by kernel_rfl) (by kernel_rfl) (by kernel_rfl) (fun _ _ _ h => h) (Or.inr ⟨by kernel_rfl, rfl⟩) hS (by kernel_rfl) ?ha52_101 ?_
            case ha52_101 => simp only [Act.put, List.setIfInBounds_toArray, List.set_cons_zero, List.set_cons_succ] <;> with_reducible rfl
            refine takeD (i := 53) (ac2 := ?aa53_102) (v := undef) (d := some 111) (ls2 := (lsA 57 54)) rfl rfl (by kernel_rfl) (by kernel_rfl) (by kernel_rfl) (fun _ _ _ h => h) (Or.inr ⟨by kernel_rfl, rfl⟩) hS (by kernel_rfl) ?ha53_102 ?_
            case ha53_102 => simp only [Act.put, List.setIfInBounds_toArray, List.set_cons_zero, List.set_cons_succ] <;> with_reducible rfl
            refine takeD (i := 54) (ac2 := ?aa54_103) (v := undef) (d := some 112) (ls2 := (lsA 57 55)) rfl rfl (by kernel_rfl) (by kernel_rfl) (by kernel_rfl) (fun _ _ _ h => h) (Or.inr ⟨by kernel_rfl, rfl⟩) hS (by kernel_rfl) ?ha54_103 ?_
            case ha54_103 => simp only [Act.put, List.setIfInBounds_toArray, List.set_cons_zero, List.set_cons_succ] <;> with_reducible rfl
            refine takeD (i := 55) (ac2 := ?aa55_104) (v := ?v55_104) (d := some 113) (ls2 := (lsA 57 56)) rfl rfl (by kernel_rfl) (by kernel_rfl) (by kernel_rfl) (fun _ _ _ h => h) (Or.inl ⟨by kernel_rfl, ?hy55_104⟩) hS (by kernel_rfl) ?ha55_104 ?_
            case hy55_104 => intro w_ hS_; first | (go_simp; done) | (go_simp; with_reducible rfl)
            case ha55_104 => simp only [Act.put, List.setIfInBounds_toArray, List.set_cons_zero, List.set_cons_succ] <;> with_reducible rfl
            refine takeD (i := 56) (ac2 := ?aa56_105) (v := ?v56_105) (d := some 5) (ls2 := (lsA 57 57)) rfl rfl (by kernel_rfl) (by kernel_rfl) (by kernel_rfl) (fun _ _ _ h => h) (Or.inl ⟨by kernel_rfl, ?hy56_105⟩) hS (by kernel_rfl) ?ha56_105 ?_
            case hy56_105 => intro w_ hS_; first | (go_simp; done) | (go_simp; with_reducible rfl)
            case ha56_105 => simp only [Act.put, List.setIfInBounds_toArray, List.set_cons_zero, List.set_cons_succ] <;> with_reducible rfl
            refine wpAnyH_done (by kernel_rfl) ?_ _
            try go_simp
            go_wp2
            go_roundg gk
            case measure => omega
            case rel =>
              have hu := HU.out
              have hs := hS
              refine ⟨i + 1, _, rfl, by first | rfl | (congr 1), by omega, by omega, HO.out, fun _ => HT.out, hu.trans ((HBX.out.trans (hs.mono HBX.out.size)).mono hu.size)⟩
          | true =>
            refine takeD (i := 12) (ac2 := ?aa12_106) (v := ?v12_106) (d := some 70) (ls2 := (lsA 57 13)) rfl rfl (by kernel_rfl) (by kernel_rfl) (by kernel_rfl) (fun _ _ _ h => h) (Or.inl ⟨by kernel_rfl, ?hy12_106⟩) hS (by kernel_rfl) ?ha12_106 ?_
            case hy12_106 => intro w_ hS_; first | (go_simp; done) | (go_simp; with_reducible rfl)
            case ha12_106 => simp only [Act.put, List.setIfInBounds_toArray, List.set_cons_zero, List.set_cons_succ] <;> with_reducible rfl
            refine takeD (i := 13) (ac2 := ?aa13_107) (v := ?v13_107) (d := some 71) (ls2 := (lsA 57 14)) rfl rfl (by kernel_rfl) (by kernel_rfl) (by kernel_rfl) (fun _ _ _ h => h) (Or.inl ⟨by kernel_rfl, ?hy13_107⟩) hS (by kernel_rfl) ?ha13_107 ?_
            case hy13_107 => intro w_ hS_; (replace hS_ : Below WX.heap.size WX w_ := hS_); have X1_ := below_cell hS_ X1.out; first | (go_simp; done) | (go_simp; with_reducible rfl)
            case ha13_107 => simp only [Act.put, List.setIfInBounds_toArray, List.set_cons_zero, List.set_cons_succ] <;> with_reducible rfl
            refine takeD (i := 14) (ac2 := ?aa14_108) (v := ?v14_108) (d := some 72) (ls2 := (lsA 57 15)) rfl rfl (by kernel_rfl) (by kernel_rfl) (by kernel_rfl) (fun _ _ _ h => h) (Or.inl ⟨by kernel_rfl, ?hy14_108⟩) hS (by kernel_rfl) ?ha14_108 ?_
            case hy14_108 => intro w_ hS_; first | (go_simp; done) | (go_simp; with_reducible rfl)
            case ha14_108 => simp only [Act.put, List.setIfInBounds_toArray, List.set_cons_zero, List.set_cons_succ] <;> with_reducible rfl
            refine takeD (i := 15) (ac2 := ?aa15_109) (v := ?v15_109) (d := some 73) (ls2 := (lsA 57 16)) rfl rfl (by kernel_rfl) (by kernel_rfl) (by kernel_rfl) (fun _ _ _ h => h) (Or.inl ⟨by kernel_rfl, ?hy15_109⟩) hS (by kernel_rfl) ?ha15_109 ?_
            case hy15_109 => intro w_ hS_; (replace hS_ : Below WX.heap.size WX w_ := hS_); have G1_ := below_cell hS_ G1.out; first | (go_simp; done) | (go_simp; with_reducible rfl)
            case ha15_109 => simp only [Act.put, List.setIfInBounds_toArray, List.set_cons_zero, List.set_cons_succ] <;> with_reducible rfl
            refine takeD (i := 16) (ac2 := ?aa16_110) (v := ?v16_110) (d := some 74) (ls2 := (lsA 57 17)) rfl rfl (by kernel_rfl) (by kernel_rfl) (by kernel_rfl) (fun _ _ _ h => h) (Or.inl ⟨by kernel_rfl, ?hy16_110⟩) hS (by kernel_rfl) ?ha16_110 ?_
            case hy16_110 => intro w_ hS_; first | (go_simp; done) | (go_simp; with_reducible rfl)
            case ha16_110 => simp only [Act.put, List.setIfInBounds_toArray, List.set_cons_zero, List.set_cons_succ] <;> with_reducible rfl
            refine takeD (i := 17) (ac2 := ?aa17_111) (v := ?v17_111) (d := some 75) (ls2 := (lsA 57 18)) rfl rfl (by kernel_rfl) (by kernel_rfl) (by kernel_rfl) (fun _ _ _ h => h) (Or.inl ⟨by kernel_rfl, ?hy17_111⟩) hS (by kernel_rfl) ?ha17_111 ?_
            case hy17_111 => intro w_ hS_; first | (go_simp; done) | (go_simp; with_reducible rfl)
            case ha17_111 => simp only [Act.put, List.setIfInBounds_toArray, List.set_cons_zero, List.set_cons_succ] <;> with_reducible rfl
            refine takeD (i := 18) (ac2 := ?aa18_112) (v := ?v18_112) (d := some 76) (ls2 := (lsA 57 19)) rfl rfl (by kernel_rfl) (by kernel_rfl) (by kernel_rfl) (fun _ _ _ h => h) (Or.inl ⟨by kernel_rfl, ?hy18_112⟩) hS (by kernel_rfl) ?ha18_112 ?_
            case hy18_112 => intro w_ hS_; first | (go_simp; done) | (go_simp; with_reducible rfl)
            case ha18_112 => simp only [Act.put, List.setIfInBounds_toArray, List.set_cons_zero, List.set_cons_succ] <;> with_reducible rfl
            refine takeD (i := 19) (ac2 := ?aa19_113) (v := ?v19_113) (d := some 77) (ls2 := (lsA 57 20)) rfl rfl (by kernel_rfl) (by kernel_rfl) (by kernel_rfl) (fun _ _ _ h => h) (Or.inl ⟨by kernel_rfl, ?hy19_113⟩) hS (by kernel_rfl) ?ha19_113 ?_
            case hy19_113 => intro w_ hS_; first | (go_simp; done) | (go_simp; with_reducible rfl)
            case ha19_113 => simp only [Act.put, List.setIfInBounds_toArray, List.set_cons_zero, List.set_cons_succ] <;> with_reducible rfl
            cases b3 with
            | false =>
              refine takeD (i := 20) (ac2 := ?aa20_114) (v := undef) (d := some 78) (ls2 := (lsA 57 21)) rfl rfl (by kernel_rfl) (by kernel_rfl) (by kernel_rfl) (fun _ _ _ h => h) (Or.inr ⟨by kernel_rfl, rfl⟩) hS (by kernel_rfl) ?ha20_114 ?_
              case ha20_114 => simp only [Act.put, List.setIfInBounds_toArray, List.set_cons_zero, List.set_cons_succ] <;> with_reducible rfl
              refine takeD (i := 21) (ac2 := ?aa21_115) (v := undef) (d := some 79) (ls2 := (lsA 57 22)) rfl rfl (by kernel_rfl) (by kernel_rfl) (by kernel_rfl) (fun _ _ _ h => h) (Or.inr ⟨by kernel_rfl, rfl⟩) hS (by kernel_rfl) ?ha21_115 ?_
              case ha21_115 => simp only [Act.put, List.setIfInBounds_toArray, List.set_cons_zero, List.set_cons_succ] <;> with_reducible rfl
              refine takeD (i := 22) (ac2 := ?aa22_116) (v := undef) (d := some 80) (ls2 := (lsA 57 23)) rfl rfl (by kernel_rfl) (by kernel_rfl) (by kernel_rfl) (fun _ _ _ h => h) (Or.inr ⟨by kernel_rfl, rfl⟩) hS (by kernel_rfl) ?ha22_116 ?_
              case ha22_116 => simp only [Act.put, List.setIfInBounds_toArray, List.set_cons_zero, List.set_cons_succ] <;> with_reducible rfl
              refine takeD (i := 23) (ac2 := ?aa23_117) (v := undef) (d := some 81) (ls2 := (lsA 57 24)) rfl rfl (by kernel_rfl) (by kernel_rfl) (by kernel_rfl) (fun _ _ _ h => h) (Or.inr ⟨by kernel_rfl, rfl⟩) hS (by kernel_rfl) ?ha23_117 ?_
              case ha23_117 => simp only [Act.put, List.setIfInBounds_toArray, List.set_cons_zero, List.set_cons_succ] <;> with_reducible rfl
              refine takeD (i := 24) (ac2 := ?aa24_118) (v := undef) (d := some 82) (ls2 := (lsA 57 25)) rfl rfl (by kernel_rfl) (by kernel_rfl) (by kernel_rfl) (fun _ _ _ h => h) (Or.inr ⟨by kernel_rfl, rfl⟩) hS (by kernel_rfl) ?ha24_118 ?_
              case ha24_118 => simp only [Act.put, List.setIfInBounds_toArray, List.set_cons_zero, List.set_cons_succ] <;> with_reducible rfl
              refine takeD (i := 25) (ac2 := ?aa25_119) (v := ?v25_119) (d := some 83) (ls2 := (lsA 57 26)) rfl rfl (by kernel_rfl) (by kernel_rfl) (by kernel_rfl) (fun _ _ _ h => h) (Or.inl ⟨by kernel_rfl, ?hy25_119⟩) hS (by kernel_rfl) ?ha25_119 ?_
              case hy25_119 => intro w_ hS_; first | (go_simp; done) | (go_simp; with_reducible rfl)
              case ha25_119 => simp only [Act.put, List.setIfInBounds_toArray, List.set_cons_zero, List.set_cons_succ] <;> with_reducible rfl
              refine takeD (i := 26) (ac2 := ?aa26_120) (v := ?v26_120) (d := some 84) (ls2 := (lsA 57 27)) rfl rfl (by kernel_rfl) (by kernel_rfl) (by kernel_rfl) (fun _ _ _ h => h) (Or.inl ⟨by kernel_rfl, ?hy26_120⟩) hS (by kernel_rfl) ?ha26_120 ?_
              case hy26_120 => intro w_ hS_; first | (go_simp; done) | (go_simp; with_reducible rfl)
              case ha26_120 => simp only [Act.put, List.setIfInBounds_toArray, List.set_cons_zero, List.set_cons_succ] <;> with_reducible rfl
              refine takeD (i := 27) (ac2 := ?aa27_121) (v := undef) (d := some 85) (ls2 := (lsA 57 28)) rfl rfl (by kernel_rfl) (by kernel_rfl) (by kernel_rfl) (fun _ _ _ h => h) (Or.inr ⟨by kernel_rfl, rfl⟩) hS (by kernel_rfl) ?ha27_121 ?_
              case ha27_121 => simp only [Act.put, List.setIfInBounds_toArray, List.set_cons_zero, List.set_cons_succ] <;> with_reducible rfl
              refine takeD (i := 28) (ac2 := ?aa28_122) (v := undef) (d := some 86) (ls2 := (lsA 57 29)) rfl rfl (by kernel_rfl) (by kernel_rfl) (by kernel_rfl) (fun _ _ _ h => h) (Or.inr ⟨by kernel_rfl, rfl⟩) hS (by kernel_rfl) ?ha28_122 ?_
              case ha28_122 => simp only [Act.put, List.setIfInBounds_toArray, List.set_cons_zero, List.set_cons_succ] <;> with_reducible rfl
              refine takeD (i := 29) (ac2 := ?aa29_123) (v := undef) (d := some 87) (ls2 := (lsA 57 30)) rfl rfl (by kernel_rfl) (by kernel_rfl) (by kernel_rfl) (fun _ _ _ h => h) (Or.inr ⟨by kernel_rfl, rfl⟩) hS (by kernel_rfl) ?ha29_123 ?_
              case ha29_123 => simp only [Act.put, List.setIfInBounds_toArray, List.set_cons_zero, List.set_cons_succ] <;> with_reducible rfl
              refine takeD (i := 30) (ac2 := ?aa30_124) (v := undef) (d := some 88) (ls2 := (lsA 57 31)) rfl rfl (by kernel_rfl) (by kernel_rfl) (by kernel_rfl) (fun _ _ _ h => h) (Or.inr ⟨by kernel_rfl, rfl⟩) hS (by kernel_rfl) ?ha30_124 ?_
              case ha30_124 => simp only [Act.put, List.setIfInBounds_toArray, List.set_cons_zero, List.set_cons_succ] <;> with_reducible rfl
              refine takeD (i := 31) (ac2 := ?aa31_125) (v := undef) (d := some 89) (ls2 := (lsA 57 32)) rfl rfl (by kernel_rfl) (by kernel_rfl) (by kernel_rfl) (fun _ _ _ h => h) (Or.inr ⟨by kernel_rfl, rfl⟩) hS (by kernel_rfl) ?ha31_125 ?_
              case ha31_125 => simp only [Act.put, List.setIfInBounds_toArray, List.set_cons_zero, List.set_cons_succ] <;> with_reducible rfl
              refine takeD (i := 32) (ac2 := ?aa32_126) (v := undef) (d := some 90) (ls2 := (lsA 57 33)) rfl rfl (by kernel_rfl) (by kernel_rfl) (by kernel_rfl) (fun _ _ _ h => h) (Or.inr ⟨by kernel_rfl, rfl⟩) hS (by kernel_rfl) ?ha32_126 ?_
              case ha32_126 => simp only [Act.put, List.setIfInBounds_toArray, List.set_cons_zero, List.set_cons_succ] <;> with_reducible rfl
              refine takeD (i := 33) (ac2 := ?aa33_127) (v := undef) (d := some 91) (ls2 := (lsA 57 34)) rfl rfl (by kernel_rfl) (by kernel_rfl) (by kernel_rfl) (fun _ _ _ h => h) (Or.inr ⟨by kernel_rfl, rfl⟩) hS (by kernel_rfl) ?ha33_127 ?_
              case ha33_127 => simp only [Act.put, List.setIfInBounds_toArray, List.set_cons_zero, List.set_cons_succ] <;> with_reducible rfl
              refine takeD (i := 34) (ac2 := ?aa34_128) (v := ?v34_128) (d := some 92) (ls2 := (lsA 57 35)) rfl rfl (by kernel_rfl) (by kernel_rfl) (by kernel_rfl) (fun _ _ _ h => h) (Or.inl ⟨by kernel_rfl, ?hy34_128⟩) hS (by kernel_rfl) ?ha34_128 ?_
              case hy34_128 => intro w_ hS_; first | (go_simp; done) | (go_simp; with_reducible rfl)
              case ha34_128 => simp only [Act.put, List.setIfInBounds_toArray, List.set_cons_zero, List.set_cons_succ] <;> with_reducible rfl
              refine takeD (i := 35) (ac2 := ?aa35_129) (v := ?v35_129) (d := some 93) (ls2 := (lsA 57 36)) rfl rfl (by kernel_rfl) (by kernel_rfl) (by kernel_rfl) (fun _ _ _ h => h) (Or.inl ⟨by kernel_rfl, ?hy35_129⟩) hS (by kernel_rfl) ?ha35_129 ?_
              case hy35_129 => intro w_ hS_; first | (go_simp; done) | (go_simp; with_reducible rfl)
              case ha35_129 => simp only [Act.put, List.setIfInBounds_toArray, List.set_cons_zero, List.set_cons_succ] <;> with_reducible rfl
              refine takeD (i := 36) (ac2 := ?aa36_130) (v := undef) (d := some 94) (ls2 := (lsA 57 37)) rfl rfl (by kernel_rfl) (by kernel_rfl) (by kernel_rfl) (fun _ _ _ h => h) (Or.inr ⟨by kernel_rfl, rfl⟩) hS (by kernel_rfl) ?ha36_130 ?_
              case ha36_130 => simp only [Act.put, List.setIfInBounds_toArray, List.set_cons_zero, List.set_cons_succ] <;> with_reducible rfl
              refine takeD (i := 37) (ac2 := ?aa37_131) (v := undef) (d := some 95) (ls2 := (lsA 57 38)) rfl rfl (by kernel_rfl) (by kernel_rfl) (by kernel_rfl) (fun _ _ _ h => h) (Or.inr ⟨by kernel_rfl, rfl⟩) hS (by kernel_rfl) ?ha37_131 ?_
              case ha37_131 => simp only [Act.put, List.setIfInBounds_toArray, List.set_cons_zero, List.set_cons_succ] <;> with_reducible rfl
              refine takeD (i := 38) (ac2 := ?aa38_132) (v := undef) (d := some 96) (ls2 := (lsA 57 39)) rfl rfl (by kernel_rfl) (by kernel_rfl) (by kernel_rfl) (fun _ _ _ h => h) (Or.inr ⟨by kernel_rfl, rfl⟩) hS (by kernel_rfl) ?ha38_132 ?_
              case ha38_132 => simp only [Act.put, List.setIfInBounds_toArray, List.set_cons_zero, List.set_cons_succ] <;> with_reducible rfl
              refine takeD (i := 39) (ac2 := ?aa39_133) (v := undef) (d := some 97) (ls2 := (lsA 57 40)) rfl rfl (by kernel_rfl) (by kernel_rfl) (by kernel_rfl) (fun _ _ _ h => h) (Or.inr ⟨by kernel_rfl, rfl⟩) hS (by kernel_rfl) ?ha39_133 ?_
              case ha39_133 => simp only [Act.put, List.setIfInBounds_toArray, List.set_cons_zero, List.set_cons_succ] <;> with_reducible rfl
              refine takeD (i := 40) (ac2 := ?aa40_134) (v := ?v40_134) (d := some 98) (ls2 := (lsA 57 41)) rfl rfl (by kernel_rfl) (by kernel_rfl) (by kernel_rfl) (fun _ _ _ h => h) (Or.inl ⟨by kernel_rfl, ?hy40_134⟩) hS (by kernel_rfl) ?ha40_134 ?_
              case hy40_134 => intro w_ hS_; first | (go_simp; done) | (go_simp; with_reducible rfl)
              case ha40_134 => simp only [Act.put, List.setIfInBounds_toArray, List.set_cons_zero, List.set_cons_succ] <;> with_reducible rfl
              refine takeD (i := 41) (ac2 := ?aa41_135) (v := ?v41_135) (d := some 99) (ls2 := (lsA 57 42)) rfl rfl (by kernel_rfl) (by kernel_rfl) (by kernel_rfl) (fun _ _ _ h => h) (Or.inl ⟨by kernel_rfl, ?hy41_135⟩) hS (by kernel_rfl) ?ha41_135 ?_
              case hy41_135 => intro w_ hS_; first | (go_simp; done) | (go_simp; with_reducible rfl)
              case ha41_135 => simp only [Act.put, List.setIfInBounds_toArray, List.set_cons_zero, List.set_cons_succ] <;> with_reducible rfl
              refine takeD (i := 42) (ac2 := ?aa42_136) (v := undef) (d := some 100) (ls2 := (lsA 57 43)) rfl rfl (by kernel_rfl) (by kernel_rfl) (by kernel_rfl) (fun _ _ _ h => h) (Or.inr ⟨by kernel_rfl, rfl⟩) hS (by kernel_rfl) ?ha42_136 ?_
              case ha42_136 => simp only [Act.put, List.setIfInBounds_toArray, List.set_cons_zero, List.set_cons_succ] <;> with_reducible rfl
              refine takeD (i := 43) (ac2 := ?aa43_137) (v := undef) (d := some 101) (ls2 := (lsA 57 44)) rfl rfl (by kernel_rfl) (by kernel_rfl) (by kernel_rfl) (fun _ _ _ h => h) (Or.inr ⟨by kernel_rfl, rfl⟩) hS (by kernel_rfl) ?ha43_137 ?_
              case ha43_137 => simp only [Act.put, List.setIfInBounds_toArray, List.set_cons_zero, List.set_cons_succ] <;> with_reducible rfl
              refine takeD (i := 44) (ac2 := ?aa44_138) (v := undef) (d := some 102) (ls2 := (lsA 57 45)) rfl rfl (by kernel_rfl) (by kernel_rfl) (by kernel_rfl) (fun _ _ _ h => h) (Or.inr ⟨by kernel_rfl, rfl⟩) hS (by kernel_rfl) ?ha44_138 ?_
              case ha44_138 => simp only [Act.put, List.setIfInBounds_toArray, List.set_cons_zero, List.set_cons_succ] <;> with_reducible rfl
              refine takeD (i := 45) (ac2 := ?aa45_139) (v := undef) (d := some 103) (ls2 := (lsA 57 46)) rfl rfl (by kernel_rfl) (by kernel_rfl) (by kernel_rfl) (fun _ _ _ h => h) (Or.inr ⟨by kernel_rfl, rfl⟩) hS (by kernel_rfl) ?ha45_139 ?_
              case ha45_139 => simp only [Act.put, List.setIfInBounds_toArray, List.set_cons_zero, List.set_cons_succ] <;> with_reducible rfl
              refine takeD (i := 46) (ac2 := ?aa46_140) (v := undef) (d := some 104) (ls2 := (lsA 57 47)) rfl rfl (by kernel_rfl) (by kernel_rfl) (by kernel_rfl) (fun _ _ _ h => h) (Or.inr ⟨by kernel_rfl, rfl⟩) hS (by kernel_rfl) ?ha46_140 ?_
              case ha46_140 => simp only [Act.put, List.setIfInBounds_toArray, List.set_cons_zero, List.set_cons_succ] <;> with_reducible rfl
              refine takeD (i := 47) (ac2 := ?aa47_141) (v := undef) (d := some 105) (ls2 := (lsA 57 48)) rfl rfl (by kernel_rfl) (by kernel_rfl) (by kernel_rfl) (fun _ _ _ h => h) (Or.inr ⟨by kernel_rfl, rfl⟩) hS (by kernel_rfl) ?ha47_141 ?_
              case ha47_141 => simp only [Act.put, List.setIfInBounds_toArray, List.set_cons_zero, List.set_cons_succ] <;> with_reducible rfl
              refine takeD (i := 48) (ac2 := ?aa48_142) (v := undef) (d := some 106) (ls2 := (lsA 57 49)) rfl rfl (by kernel_rfl) (by kernel_rfl) (by kernel_rfl) (fun _ _ _ h => h) (Or.inr ⟨by kernel_rfl, rfl⟩) hS (by kernel_rfl) ?ha48_142 ?_
              case ha48_142 => simp only [Act.put, List.setIfInBounds_toArray, List.set_cons_zero, List.set_cons_succ] <;> with_reducible rfl
              refine takeD (i := 49) (ac2 := ?aa49_143) (v := undef) (d := some 107) (ls2 := (lsA 57 50)) rfl rfl (by kernel_rfl) (by kernel_rfl) (by kernel_rfl) (fun _ _ _ h => h) (Or.inr ⟨by kernel_rfl, rfl⟩) hS (by kernel_rfl) ?ha49_143 ?_
              case ha49_143 => simp only [Act.put, List.setIfInBounds_toArray, List.set_cons_zero, List.set_cons_succ] <;> with_reducible rfl
              refine takeD (i := 50) (ac2 := ?aa50_144) (v := undef) (d := some 108) (ls2 := (lsA 57 51)) rfl rfl (by kernel_rfl) (by kernel_rfl) (by kernel_rfl) (fun _ _ _ h => h) (Or.inr ⟨by kernel_rfl, rfl⟩) hS (by kernel_rfl) ?ha50_144 ?_
              case ha50_144 => simp only [Act.put, List.setIfInBounds_toArray, List.set_cons_zero, List.set_cons_succ] <;> with_reducible rfl
              refine takeD (i := 51) (ac2 := ?aa51_145) (v := undef) (d := some 109) (ls2 := (lsA 57 52)) rfl rfl (by kernel_rfl) (by kernel_rfl) (by kernel_rfl) (fun _ _ _ h => h) (Or.inr ⟨by kernel_rfl, rfl⟩) hS (by kernel_rfl) ?ha51_145 ?_
              case ha51_145 => simp only [Act.put, List.setIfInBounds_toArray, List.set_cons_zero, List.set_cons_succ] <;> with_reducible rfl
              refine takeD (i := 52) (ac2 := ?aa52_146) (v := undef) (d := some 110) (ls2 := (lsA 57 53)) rfl rfl (by kernel_rfl) (by kernel_rfl) (by kernel_rfl) (fun _ _ _ h => h) (Or.inr ⟨by kernel_rfl, rfl⟩) hS (by kernel_rfl) ?ha52_146 ?_
              case ha52_146 => simp only [Act.put, List.setIfInBounds_toArray, List.set_cons_zero, List.set_cons_succ] <;> with_reducible rfl
              refine takeD (i := 53) (ac2 := ?aa53_147) (v := undef) (d := some 111) (ls2 := (lsA 57 54)) rfl rfl (by kernel_rfl) (by kernel_rfl) (by kernel_rfl) (fun _ _ _ h => h) (Or.inr ⟨by kernel_rfl, rfl⟩) hS (by kernel_rfl) ?ha53_147 ?_
              case ha53_147 => simp only [Act.put, List.setIfInBounds_toArray, List.set_cons_zero, List.set_cons_succ] <;> with_reducible rfl
              refine takeD (i := 54) (ac2 := ?aa54_148) (v := undef) (d := some 112) (ls2 := (lsA 57 55)) rfl rfl (by kernel_rfl) (by kernel_rfl) (by kernel_rfl) (fun _ _ _ h => h) (Or.inr ⟨by kernel_rfl, rfl⟩) hS (by kernel_rfl) ?ha54_148 ?_
              case ha54_148 => simp only [Act.put, List.setIfInBounds_toArray, List.set_cons_zero, List.set_cons_succ] <;> with_reducible rfl
              refine takeD (i := 55) (ac2 := ?aa55_149) (v := ?v55_149) (d := some 113) (ls2 := (lsA 57 56)) rfl rfl (by kernel_rfl) (by kernel_rfl) (by kernel_rfl) (fun _ _ _ h => h) (Or.inl ⟨by kernel_rfl, ?hy55_149⟩) hS (by kernel_rfl) ?ha55_149 ?_
              case hy55_149 => intro w_ hS_; first | (go_simp; done) | (go_simp; with_reducible rfl)
              case ha55_149 => simp only [Act.put, List.setIfInBounds_toArray, List.set_cons_zero, List.set_cons_succ] <;> with_reducible rfl
              refine takeD (i := 56) (ac2 := ?aa56_150) (v := ?v56_150) (d := some 5) (ls2 := (lsA 57 57)) rfl rfl (by kernel_rfl) (by kernel_rfl) (by kernel_rfl) (fun _ _ _ h => h) (Or.inl ⟨by kernel_rfl, ?hy56_150⟩) hS (by kernel_rfl) ?ha56_150 ?_
              case hy56_150 => intro w_ hS_; first | (go_simp; done) | (go_simp; with_reducible rfl)
              case ha56_150 => simp only [Act.put, List.setIfInBounds_toArray, List.set_cons_zero, List.set_cons_succ] <;> with_reducible rfl
              refine wpAnyH_done (by kernel_rfl) ?_ _
              try go_simp
              go_wp2
              go_roundg gk
              case measure => omega
              case rel =>
                have hu := HU.out
                have hs := hS
                refine ⟨i + 1, _, rfl, by first | rfl | (congr 1), by omega, by omega, HO.out, fun _ => HT.out, hu.trans ((HBX.out.trans (hs.mono HBX.out.size)).mono hu.size)⟩
            | true =>
              refine takeD (i := 20) (ac2 := ?aa20_151) (v := ?v20_151) (d := some 78) (ls2 := (lsA 57 21)) rfl rfl (by kernel_rfl) (by kernel_rfl) (by kernel_rfl) (fun _ _ _ h => h) (Or.inl ⟨by kernel_rfl, ?hy20_151⟩) hS (by kernel_rfl) ?ha20_151 ?_
              case hy20_151 => intro w_ hS_; first | (go_simp; done) | (go_simp; with_reducible rfl)
              case ha20_151 => simp only [Act.put, List.setIfInBounds_toArray, List.set_cons_zero, List.set_cons_succ] <;> with_reducible rfl
              refine takeD (i := 21) (ac2 := ?aa21_152) (v := ?v21_152) (d := some 79) (ls2 := (lsA 57 22)) rfl rfl (by kernel_rfl) (by kernel_rfl) (by kernel_rfl) (fun _ _ _ h => h) (Or.inl ⟨by kernel_rfl, ?hy21_152⟩) hS (by kernel_rfl) ?ha21_152 ?_
              case hy21_152 => intro w_ hS_; (replace hS_ : Below WX.heap.size WX w_ := hS_); have X1_ := below_cell hS_ X1.out; first | (go_simp; done) | (go_simp; with_reducible rfl)
              case ha21_152 => simp only [Act.put, List.setIfInBounds_toArray, List.set_cons_zero, List.set_cons_succ] <;> with_reducible rfl
              refine takeD (i := 22) (ac2 := ?aa22_153) (v := ?v22_153) (d := some 80) (ls2 := (lsA 57 23)) rfl rfl (by kernel_rfl) (by kernel_rfl) (by kernel_rfl) (fun _ _ _ h => h) (Or.inl ⟨by kernel_rfl, ?hy22_153⟩) hS (by kernel_rfl) ?ha22_153 ?_
              case hy22_153 => intro w_ hS_; first | (go_simp; done) | (go_simp; with_reducible rfl)
              case ha22_153 => simp only [Act.put, List.setIfInBounds_toArray, List.set_cons_zero, List.set_cons_succ] <;> with_reducible rfl
              refine takeD (i := 23) (ac2 := ?aa23_154) (v := ?v23_154) (d := some 81) (ls2 := (lsA 57 24)) rfl rfl (by kernel_rfl) (by kernel_rfl) (by kernel_rfl) (fun _ _ _ h => h) (Or.inl ⟨by kernel_rfl, ?hy23_154⟩) hS (by kernel_rfl) ?ha23_154 ?_
              case hy23_154 => intro w_ hS_; (replace hS_ : Below WX.heap.size WX w_ := hS_); have S0_ := below_cell hS_ S0.out; first | (go_simp; done) | (go_simp; with_reducible rfl)
              case ha23_154 => simp only [Act.put, List.setIfInBounds_toArray, List.set_cons_zero, List.set_cons_succ] <;> with_reducible rfl
              refine takeD (i := 24) (ac2 := ?aa24_155) (v := ?v24_155) (d := some 82) (ls2 := (lsA 57 25)) rfl rfl (by kernel_rfl) (by kernel_rfl) (by kernel_rfl) (fun _ _ _ h => h) (Or.inl ⟨by kernel_rfl, ?hy24_155⟩) hS (by kernel_rfl) ?ha24_155 ?_
              case hy24_155 => intro w_ hS_; first | (go_simp; done) | (go_simp; with_reducible rfl)
              case ha24_155 => simp only [Act.put, List.setIfInBounds_toArray, List.set_cons_zero, List.set_cons_succ] <;> with_reducible rfl
              refine takeD (i := 25) (ac2 := ?aa25_156) (v := ?v25_156) (d := some 83) (ls2 := (lsA 57 26)) rfl rfl (by kernel_rfl) (by kernel_rfl) (by kernel_rfl) (fun _ _ _ h => h) (Or.inl ⟨by kernel_rfl, ?hy25_156⟩) hS (by kernel_rfl) ?ha25_156 ?_
              case hy25_156 => intro w_ hS_; first | (go_simp; done) | (go_simp; with_reducible rfl)
              case ha25_156 => simp only [Act.put, List.setIfInBounds_toArray, List.set_cons_zero, List.set_cons_succ] <;> with_reducible rfl
              refine takeD (i := 26) (ac2 := ?aa26_157) (v := ?v26_157) (d := some 84) (ls2 := (lsA 57 27)) rfl rfl (by kernel_rfl) (by kernel_rfl) (by kernel_rfl) (fun _ _ _ h => h) (Or.inl ⟨by kernel_rfl, ?hy26_157⟩) hS (by kernel_rfl) ?ha26_157 ?_
              case hy26_157 => intro w_ hS_; first | (go_simp; done) | (go_simp; with_reducible rfl)
              case ha26_157 => simp only [Act.put, List.setIfInBounds_toArray, List.set_cons_zero, List.set_cons_succ] <;> with_reducible rfl
              cases b4 with
              | false =>
                refine takeD (i := 27) (ac2 := ?aa27_158) (v := undef) (d := some 85) (ls2 := (lsA 57 28)) rfl rfl (by kernel_rfl) (by kernel_rfl) (by kernel_rfl) (fun _ _ _ h => h) (Or.inr ⟨by kernel_rfl, rfl⟩) hS (by kernel_rfl) ?ha27_158 ?_
                case ha27_158 => simp only [Act.put, List.setIfInBounds_toArray, List.set_cons_zero, List.set_cons_succ] <;> with_reducible rfl
                refine takeD (i := 28) (ac2 := ?aa28_159) (v := undef) (d := some 86) (ls2 := (lsA 57 29)) rfl rfl (by kernel_rfl) (by kernel_rfl) (by kernel_rfl) (fun _ _ _ h => h) (Or.inr ⟨by kernel_rfl, rfl⟩) hS (by kernel_rfl) ?ha28_159 ?_
                case ha28_159 => simp only [Act.put, List.setIfInBounds_toArray, List.set_cons_zero, List.set_cons_succ] <;> with_reducible rfl
                refine takeD (i := 29) (ac2 := ?aa29_160) (v := undef) (d := some 87) (ls2 := (lsA 57 30)) rfl rfl (by kernel_rfl) (by kernel_rfl) (by kernel_rfl) (fun _ _ _ h => h) (Or.inr ⟨by kernel_rfl, rfl⟩) hS (by kernel_rfl) ?ha29_160 ?_
                case ha29_160 => simp only [Act.put, List.setIfInBounds_toArray, List.set_cons_zero, List.set_cons_succ] <;> with_reducible rfl
                refine takeD (i := 30) (ac2 := ?aa30_161) (v := undef) (d := some 88) (ls2 := (lsA 57 31)) rfl rfl (by kernel_rfl) (by kernel_rfl) (by kernel_rfl) (fun _ _ _ h => h) (Or.inr ⟨by kernel_rfl, rfl⟩) hS (by kernel_rfl) ?ha30_161 ?_
                case ha30_161 => simp only [Act.put, List.setIfInBounds_toArray, List.set_cons_zero, List.set_cons_succ] <;> with_reducible rfl
                refine takeD (i := 31) (ac2 := ?aa31_162) (v := undef) (d := some 89) (ls2 := (lsA 57 32)) rfl rfl (by kernel_rfl) (by kernel_rfl) (by kernel_rfl) (fun _ _ _ h => h) (Or.inr ⟨by kernel_rfl, rfl⟩) hS (by kernel_rfl) ?ha31_162 ?_
                case ha31_162 => simp only [Act.put, List.setIfInBounds_toArray, List.set_cons_zero, List.set_cons_succ] <;> with_reducible rfl
                refine takeD (i := 32) (ac2 := ?aa32_163) (v := undef) (d := some 90) (ls2 := (lsA 57 33)) rfl rfl (by kernel_rfl) (by kernel_rfl) (by kernel_rfl) (fun _ _ _ h => h) (Or.inr ⟨by kernel_rfl, rfl⟩) hS (by kernel_rfl) ?ha32_163 ?_
                case ha32_163 => simp only [Act.put, List.setIfInBounds_toArray, List.set_cons_zero, List.set_cons_succ] <;> with_reducible rfl
                refine takeD (i := 33) (ac2 := ?aa33_164) (v := undef) (d := some 91) (ls2 := (lsA 57 34)) rfl rfl (by kernel_rfl) (by kernel_rfl) (by kernel_rfl) (fun _ _ _ h => h) (Or.inr ⟨by kernel_rfl, rfl⟩) hS (by kernel_rfl) ?ha33_164 ?_
                case ha33_164 => simp only [Act.put, List.setIfInBounds_toArray, List.set_cons_zero, List.set_cons_succ] <;> with_reducible rfl
                refine takeD (i := 34) (ac2 := ?aa34_165) (v := ?v34_165) (d := some 92) (ls2 := (lsA 57 35)) rfl rfl (by kernel_rfl) (by kernel_rfl) (by kernel_rfl) (fun _ _ _ h => h) (Or.inl ⟨by kernel_rfl, ?hy34_165⟩) hS (by kernel_rfl) ?ha34_165 ?_
                case hy34_165 => intro w_ hS_; first | (go_simp; done) | (go_simp; with_reducible rfl)
                case ha34_165 => simp only [Act.put, List.setIfInBounds_toArray, List.set_cons_zero, List.set_cons_succ] <;> with_reducible rfl
                refine takeD (i := 35) (ac2 := ?aa35_166) (v := ?v35_166) (d := some 93) (ls2 := (lsA 57 36)) rfl rfl (by kernel_rfl) (by kernel_rfl) (by kernel_rfl) (fun _ _ _ h => h) (Or.inl ⟨by kernel_rfl, ?hy35_166⟩) hS (by kernel_rfl) ?ha35_166 ?_
                case hy35_166 => intro w_ hS_; first | (go_simp; done) | (go_simp; with_reducible rfl)
                case ha35_166 => simp only [Act.put, List.setIfInBounds_toArray, List.set_cons_zero, List.set_cons_succ] <;> with_reducible rfl
                refine takeD (i := 36) (ac2 := ?aa36_167) (v := undef) (d := some 94) (ls2 := (lsA 57 37)) rfl rfl (by kernel_rfl) (by kernel_rfl) (by kernel_rfl) (fun _ _ _ h => h) (Or.inr ⟨by kernel_rfl, rfl⟩) hS (by kernel_rfl) ?ha36_167 ?_
                case ha36_167 => simp only [Act.put, List.setIfInBounds_toArray, List.set_cons_zero, List.set_cons_succ] <;> with_reducible rfl
                refine takeD (i := 37) (ac2 := ?aa37_168) (v := undef) (d := some 95) (ls2 := (lsA 57 38)) rfl rfl (by kernel_rfl) (by kernel_rfl) (by kernel_rfl) (fun _ _ _ h => h) (Or.inr ⟨by kernel_rfl, rfl⟩) hS (by kernel_rfl) ?ha37_168 ?_
                case ha37_168 => simp only [Act.put, List.setIfInBounds_toArray, List.set_cons_zero, List.set_cons_succ] <;> with_reducible rfl
                refine takeD (i := 38) (ac2 := ?aa38_169) (v := undef) (d := some 96) (ls2 := (lsA 57 39)) rfl rfl (by kernel_rfl) (by kernel_rfl) (by kernel_rfl) (fun _ _ _ h => h) (Or.inr ⟨by kernel_rfl, rfl⟩) hS (by kernel_rfl) ?ha38_169 ?_
                case ha38_169 => simp only [Act.put, List.setIfInBounds_toArray, List.set_cons_zero, List.set_cons_succ] <;> with_reducible rfl
                refine takeD (i := 39) (ac2 := ?aa39_170) (v := undef) (d := some 97) (ls2 := (lsA 57 40)) rfl rfl (by kernel_rfl) (by kernel_rfl) (by kernel_rfl) (fun _ _ _ h => h) (Or.inr ⟨by kernel_rfl, rfl⟩) hS (by kernel_rfl) ?ha39_170 ?_
                case ha39_170 => simp only [Act.put, List.setIfInBounds_toArray, List.set_cons_zero, List.set_cons_succ] <;> with_reducible rfl
                refine takeD (i := 40) (ac2 := ?aa40_171) (v := ?v40_171) (d := some 98) (ls2 := (lsA 57 41)) rfl rfl (by kernel_rfl) (by kernel_rfl) (by kernel_rfl) (fun _ _ _ h => h) (Or.inl ⟨by kernel_rfl, ?hy40_171⟩) hS (by kernel_rfl) ?ha40_171 ?_
                case hy40_171 => intro w_ hS_; first | (go_simp; done) | (go_simp; with_reducible rfl)
                case ha40_171 => simp only [Act.put, List.setIfInBounds_toArray, List.set_cons_zero, List.set_cons_succ] <;> with_reducible rfl
                refine takeD (i := 41) (ac2 := ?aa41_172) (v := ?v41_172) (d := some 99) (ls2 := (lsA 57 42)) rfl rfl (by kernel_rfl) (by kernel_rfl) (by kernel_rfl) (fun _ _ _ h => h) (Or.inl ⟨by kernel_rfl, ?hy41_172⟩) hS (by kernel_rfl) ?ha41_172 ?_
                case hy41_172 => intro w_ hS_; first | (go_simp; done) | (go_simp; with_reducible rfl)
                case ha41_172 => simp only [Act.put, List.setIfInBounds_toArray, List.set_cons_zero, List.set_cons_succ] <;> with_reducible rfl
                refine takeD (i := 42) (ac2 := ?aa42_173) (v := undef) (d := some 100) (ls2 := (lsA 57 43)) rfl rfl (by kernel_rfl) (by kernel_rfl) (by kernel_rfl) (fun _ _ _ h => h) (Or.inr ⟨by kernel_rfl, rfl⟩) hS (by kernel_rfl) ?ha42_173 ?_
                case ha42_173 => simp only [Act.put, List.setIfInBounds_toArray, List.set_cons_zero, List.set_cons_succ] <;> with_reducible rfl
                refine takeD (i := 43) (ac2 := ?aa43_174) (v := undef) (d := some 101) (ls2 := (lsA 57 44)) rfl rfl (by kernel_rfl) (by kernel_rfl) (by kernel_rfl) (fun _ _ _ h => h) (Or.inr ⟨by kernel_rfl, rfl⟩) hS (by kernel_rfl) ?ha43_174 ?_
                case ha43_174 => simp only [Act.put, List.setIfInBounds_toArray, List.set_cons_zero, List.set_cons_succ] <;> with_reducible rfl
                refine takeD (i := 44) (ac2 := ?aa44_175) (v := undef) (d := some 102) (ls2 := (lsA 57 45)) rfl rfl (by kernel_rfl) (by kernel_rfl) (by kernel_rfl) (fun _ _ _ h => h) (Or.inr ⟨by kernel_rfl, rfl⟩) hS (by kernel_rfl) ?ha44_175 ?_
                case ha44_175 => simp only [Act.put, List.setIfInBounds_toArray, List.set_cons_zero, List.set_cons_succ] <;> with_reducible rfl
                refine takeD (i := 45) (ac2 := ?aa45_176) (v := undef) (d := some 103) (ls2 := (lsA 57 46)) rfl rfl (by kernel_rfl) (by kernel_rfl) (by kernel_rfl) (fun _ _ _ h => h) (Or.inr ⟨by kernel_rfl, rfl⟩) hS (by kernel_rfl) ?ha45_176 ?_
                case ha45_176 => simp only [Act.put, List.setIfInBounds_toArray, List.set_cons_zero, List.set_cons_succ] <;> with_reducible rfl
                refine takeD (i := 46) (ac2 := ?aa46_177) (v := undef) (d := some 104) (ls2 := (lsA 57 47)) rfl rfl (by kernel_rfl) (by kernel_rfl) (by kernel_rfl) (fun _ _ _ h => h) (Or.inr ⟨by kernel_rfl, rfl⟩) hS (by kernel_rfl) ?ha46_177 ?_
                case ha46_177 => simp only [Act.put, List.setIfInBounds_toArray, List.set_cons_zero, List.set_cons_succ] <;> with_reducible rfl
                refine takeD (i := 47) (ac2 := ?aa47_178) (v := undef) (d := some 105) (ls2 := (lsA 57 48)) rfl rfl (by kernel_rfl) (by kernel_rfl) (by kernel_rfl) (fun _ _ _ h => h) (Or.inr ⟨by kernel_rfl, rfl⟩) hS (by kernel_rfl) ?ha47_178 ?_
                case ha47_178 => simp only [Act.put, List.setIfInBounds_toArray, List.set_cons_zero, List.set_cons_succ] <;> with_reducible rfl
                refine takeD (i := 48) (ac2 := ?aa48_179) (v := undef) (d := some 106) (ls2 := (lsA 57 49)) rfl rfl (by kernel_rfl) (by kernel_rfl) (by kernel_rfl) (fun _ _ _ h => h) (Or.inr ⟨by kernel_rfl, rfl⟩) hS (by kernel_rfl) ?ha48_179 ?_
                case ha48_179 => simp only [Act.put, List.setIfInBounds_toArray, List.set_cons_zero, List.set_cons_succ] <;> with_reducible rfl
                refine takeD (i := 49) (ac2 := ?aa49_180) (v := undef) (d := some 107) (ls2 := (lsA 57 50)) rfl rfl (by kernel_rfl) (by kernel_rfl) (by kernel_rfl) (fun _ _ _ h => h) (Or.inr ⟨by kernel_rfl, rfl⟩) hS (by kernel_rfl) ?ha49_180 ?_
                case ha49_180 => simp only [Act.put, List.setIfInBounds_toArray, List.set_cons_zero, List.set_cons_succ] <;> with_reducible rfl
                refine takeD (i := 50) (ac2 := ?aa50_181) (v := undef) (d := some 108) (ls2 := (lsA 57 51)) rfl rfl (by kernel_rfl) (by kernel_rfl) (by kernel_rfl) (fun _ _ _ h => h) (Or.inr ⟨by kernel_rfl, rfl⟩) hS (by kernel_rfl) ?ha50_181 ?_
                case ha50_181 => simp only [Act.put, List.setIfInBounds_toArray, List.set_cons_zero, List.set_cons_succ] <;> with_reducible rfl
                refine takeD (i := 51) (ac2 := ?aa51_182) (v := undef) (d := some 109) (ls2 := (lsA 57 52)) rfl rfl (by kernel_rfl) (by kernel_rfl) (by kernel_rfl) (fun _ _ _ h => h) (Or.inr ⟨by kernel_rfl, rfl⟩) hS (by kernel_rfl) ?ha51_182 ?_
                case ha51_182 => simp only [Act.put, List.setIfInBounds_toArray, List.set_cons_zero, List.set_cons_succ] <;> with_reducible rfl
                refine takeD (i := 52) (ac2 := ?aa52_183) (v := undef) (d := some 110) (ls2 := (lsA 57 53)) rfl rfl (by kernel_rfl) (by kernel_rfl) (by kernel_rfl) (fun _ _ _ h => h) (Or.inr ⟨by kernel_rfl, rfl⟩) hS (by kernel_rfl) ?ha52_183 ?_
                case ha52_183 => simp only [Act.put, List.setIfInBounds_toArray, List.set_cons_zero, List.set_cons_succ] <;> with_reducible rfl
                refine takeD (i := 53) (ac2 := ?aa53_184) (v := undef) (d := some 111) (ls2 := (lsA 57 54)) rfl rfl (by kernel_rfl) (by kernel_rfl) (by kernel_rfl) (fun _ _ _ h => h) (Or.inr ⟨by kernel_rfl, rfl⟩) hS (by kernel_rfl) ?ha53_184 ?_
                case ha53_184 => simp only [Act.put, List.setIfInBounds_toArray, List.set_cons_zero, List.set_cons_succ] <;> with_reducible rfl
                refine takeD (i := 54) (ac2 := ?aa54_185) (v := undef) (d := some 112) (ls2 := (lsA 57 55)) rfl rfl (by kernel_rfl) (by kernel_rfl) (by kernel_rfl) (fun _ _ _ h => h) (Or.inr ⟨by kernel_rfl, rfl⟩) hS (by kernel_rfl) ?ha54_185 ?_
                case ha54_185 => simp only [Act.put, List.setIfInBounds_toArray, List.set_cons_zero, List.set_cons_succ] <;> with_reducible rfl
                refine takeD (i := 55) (ac2 := ?aa55_186) (v := ?v55_186) (d := some 113) (ls2 := (lsA 57 56)) rfl rfl (by kernel_rfl) (by kernel_rfl) (by kernel_rfl) (fun _ _ _ h => h) (Or.inl ⟨by kernel_rfl, ?hy55_186⟩) hS (by kernel_rfl) ?ha55_186 ?_
                case hy55_186 => intro w_ hS_; first | (go_simp; done) | (go_simp; with_reducible rfl)
                case ha55_186 => simp only [Act.put, List.setIfInBounds_toArray, List.set_cons_zero, List.set_cons_succ] <;> with_reducible rfl
                refine takeD (i := 56) (ac2 := ?aa56_187) (v := ?v56_187) (d := some 5) (ls2 := (lsA 57 57)) rfl rfl (by kernel_rfl) (by kernel_rfl) (by kernel_rfl) (fun _ _ _ h => h) (Or.inl ⟨by kernel_rfl, ?hy56_187⟩) hS (by kernel_rfl) ?ha56_187 ?_
                case hy56_187 => intro w_ hS_; first | (go_simp; done) | (go_simp; with_reducible rfl)
                case ha56_187 => simp only [Act.put, List.setIfInBounds_toArray, List.set_cons_zero, List.set_cons_succ] <;> with_reducible rfl
                refine wpAnyH_done (by kernel_rfl) ?_ _
                try go_simp
                go_wp2
                go_roundg gk
                case measure => omega
                case rel =>
                  have hu := HU.out
                  have hs := hS
                  refine ⟨i + 1, _, rfl, by first | rfl | (congr 1), by omega, by omega, HO.out, fun _ => HT.out, hu.trans ((HBX.out.trans (hs.mono HBX.out.size)).mono hu.size)⟩
              | true =>
                refine takeD (i := 27) (ac2 := ?aa27_188) (v := ?v27_188) (d := some 85) (ls2 := (lsA 57 28)) rfl rfl (by kernel_rfl) (by kernel_rfl) (by kernel_rfl) (fun _ _ _ h => h) (Or.inl ⟨by kernel_rfl, ?hy27_188⟩) hS (by kernel_rfl) ?ha27_188 ?_
                case hy27_188 => intro w_ hS_; (replace hS_ : Below WX.heap.size WX w_ := hS_); have G0_ := below_cell hS_ G0.out; have G1_ := below_cell hS_ G1.out; have G2_ := below_cell hS_ G2.out; first | (go_simp; done) | (go_simp; with_reducible rfl)
                case ha27_188 => simp only [Act.put, List.setIfInBounds_toArray, List.set_cons_zero, List.set_cons_succ] <;> with_reducible rfl
                refine takeD (i := 28) (ac2 := ?aa28_189) (v := ?v28_189) (d := some 86) (ls2 := (lsA 57 29)) rfl rfl (by kernel_rfl) (by kernel_rfl) (by kernel_rfl) (fun _ _ _ h => h) (Or.inl ⟨by kernel_rfl, ?hy28_189⟩) hS (by kernel_rfl) ?ha28_189 ?_
                case hy28_189 => intro w_ hS_; first | (go_simp; done) | (go_simp; with_reducible rfl)
                case ha28_189 => simp only [Act.put, List.setIfInBounds_toArray, List.set_cons_zero, List.set_cons_succ] <;> with_reducible rfl
                refine takeD (i := 29) (ac2 := ?aa29_190) (v := ?v29_190) (d := some 87) (ls2 := (lsA 57 30)) rfl rfl (by kernel_rfl) (by kernel_rfl) (by kernel_rfl) (fun _ _ _ h => h) (Or.inl ⟨by kernel_rfl, ?hy29_190⟩) hS (by kernel_rfl) ?ha29_190 ?_
                case hy29_190 => intro w_ hS_; (replace hS_ : Below WX.heap.size WX w_ := hS_); have X1_ := below_cell hS_ X1.out; first | (go_simp; done) | (go_simp; with_reducible rfl)
                case ha29_190 => simp only [Act.put, List.setIfInBounds_toArray, List.set_cons_zero, List.set_cons_succ] <;> with_reducible rfl
                refine takeD (i := 30) (ac2 := ?aa30_191) (v := ?v30_191) (d := some 88) (ls2 := (lsA 57 31)) rfl rfl (by kernel_rfl) (by kernel_rfl) (by kernel_rfl) (fun _ _ _ h => h) (Or.inl ⟨by kernel_rfl, ?hy30_191⟩) hS (by kernel_rfl) ?ha30_191 ?_
                case hy30_191 => intro w_ hS_; first | (go_simp; done) | (go_simp; with_reducible rfl)
                case ha30_191 => simp only [Act.put, List.setIfInBounds_toArray, List.set_cons_zero, List.set_cons_succ] <;> with_reducible rfl
                refine takeD (i := 31) (ac2 := ?aa31_192) (v := ?v31_192) (d := some 89) (ls2 := (lsA 57 32)) rfl rfl (by kernel_rfl) (by kernel_rfl) (by kernel_rfl) (fun _ _ _ h => h) (Or.inl ⟨by kernel_rfl, ?hy31_192⟩) hS (by kernel_rfl) ?ha31_192 ?_
                case hy31_192 => intro w_ hS_; (replace hS_ : Below WX.heap.size WX w_ := hS_); have S0_ := below_cell hS_ S0.out; first | (go_simp; done) | (go_simp; with_reducible rfl)
                case ha31_192 => simp only [Act.put, List.setIfInBounds_toArray, List.set_cons_zero, List.set_cons_succ] <;> with_reducible rfl
                refine doD (i := 32) (ls2 := (lsA 57 33)) (by kernel_rfl) rfl (by kernel_rfl) (by kernel_rfl) (fun K hK => ?_)
                go_simp
                go_wp2_with (first | (go_at_call 46; go_loud ((with_reducible refine (hcl.out _).mono ?_); rintro e w3 ⟨rfl, hb3⟩)))
                refine hK.out _ _ ?_ (fun hS_ => ?_)
                · show Below WX.heap.size WX _
                  exact hS.trans (hb3.mono hS.size)
                clear hK K hS
                have hS : Below WX.heap.size WX _ := hS_
                clear hS_
                refine takeD (i := 33) (ac2 := ?aa33_193) (v := ?v33_193) (d := some 91) (ls2 := (lsA 57 34)) rfl rfl (by kernel_rfl) (by kernel_rfl) (by kernel_rfl) (fun _ _ _ h => h) (Or.inl ⟨by kernel_rfl, ?hy33_193⟩) hS (by kernel_rfl) ?ha33_193 ?_
                case hy33_193 => intro w_ hS_; first | (go_simp; done) | (go_simp; with_reducible rfl)
                case ha33_193 => simp only [Act.put, List.setIfInBounds_toArray, List.set_cons_zero, List.set_cons_succ] <;> with_reducible rfl
                refine takeD (i := 34) (ac2 := ?aa34_194) (v := ?v34_194) (d := some 92) (ls2 := (lsA 57 35)) rfl rfl (by kernel_rfl) (by kernel_rfl) (by kernel_rfl) (fun _ _ _ h => h) (Or.inl ⟨by kernel_rfl, ?hy34_194⟩) hS (by kernel_rfl) ?ha34_194 ?_
                case hy34_194 => intro w_ hS_; first | (go_simp; done) | (go_simp; with_reducible rfl)
                case ha34_194 => simp only [Act.put, List.setIfInBounds_toArray, List.set_cons_zero, List.set_cons_succ] <;> with_reducible rfl
                refine takeD (i := 35) (ac2 := ?aa35_195) (v := ?v35_195) (d := some 93) (ls2 := (lsA 57 36)) rfl rfl (by kernel_rfl) (by kernel_rfl) (by kernel_rfl) (fun _ _ _ h => h) (Or.inl ⟨by kernel_rfl, ?hy35_195⟩) hS (by kernel_rfl) ?ha35_195 ?_
                case hy35_195 => intro w_ hS_; first | (go_simp; done) | (go_simp; with_reducible rfl)
                case ha35_195 => simp only [Act.put, List.setIfInBounds_toArray, List.set_cons_zero, List.set_cons_succ] <;> with_reducible rfl
                cases b5 with
                | true =>
                  refine takeD (i := 36) (ac2 := ?aa36_196) (v := undef) (d := some 94) (ls2 := (lsA 57 37)) rfl rfl (by kernel_rfl) (by kernel_rfl) (by kernel_rfl) (fun _ _ _ h => h) (Or.inr ⟨by kernel_rfl, rfl⟩) hS (by kernel_rfl) ?ha36_196 ?_
                  case ha36_196 => simp only [Act.put, List.setIfInBounds_toArray, List.set_cons_zero, List.set_cons_succ] <;> with_reducible rfl
                  refine takeD (i := 37) (ac2 := ?aa37_197) (v := undef) (d := some 95) (ls2 := (lsA 57 38)) rfl rfl (by kernel_rfl) (by kernel_rfl) (by kernel_rfl) (fun _ _ _ h => h) (Or.inr ⟨by kernel_rfl, rfl⟩) hS (by kernel_rfl) ?ha37_197 ?_
                  case ha37_197 => simp only [Act.put, List.setIfInBounds_toArray, List.set_cons_zero, List.set_cons_succ] <;> with_reducible rfl
                  refine takeD (i := 38) (ac2 := ?aa38_198) (v := undef) (d := some 96) (ls2 := (lsA 57 39)) rfl rfl (by kernel_rfl) (by kernel_rfl) (by kernel_rfl) (fun _ _ _ h => h) (Or.inr ⟨by kernel_rfl, rfl⟩) hS (by kernel_rfl) ?ha38_198 ?_
                  case ha38_198 => simp only [Act.put, List.setIfInBounds_toArray, List.set_cons_zero, List.set_cons_succ] <;> with_reducible rfl
                  refine takeD (i := 39) (ac2 := ?aa39_199) (v := undef) (d := some 97) (ls2 := (lsA 57 40)) rfl rfl (by kernel_rfl) (by kernel_rfl) (by kernel_rfl) (fun _ _ _ h => h) (Or.inr ⟨by kernel_rfl, rfl⟩) hS (by kernel_rfl) ?ha39_199 ?_
                  case ha39_199 => simp only [Act.put, List.setIfInBounds_toArray, List.set_cons_zero, List.set_cons_succ] <;> with_reducible rfl
                  refine takeD (i := 40) (ac2 := ?aa40_200) (v := ?v40_200) (d := some 98) (ls2 := (lsA 57 41)) rfl rfl (by kernel_rfl) (by kernel_rfl) (by kernel_rfl) (fun _ _ _ h => h) (Or.inl ⟨by kernel_rfl, ?hy40_200⟩) hS (by kernel_rfl) ?ha40_200 ?_
                  case hy40_200 => intro w_ hS_; first | (go_simp; done) | (go_simp; with_reducible rfl)
                  case ha40_200 => simp only [Act.put, List.setIfInBounds_toArray, List.set_cons_zero, List.set_cons_succ] <;> with_reducible rfl
                  refine takeD (i := 41) (ac2 := ?aa41_201) (v := ?v41_201) (d := some 99) (ls2 := (lsA 57 42)) rfl rfl (by kernel_rfl) (by kernel_rfl) (by kernel_rfl) (fun _ _ _ h => h) (Or.inl ⟨by kernel_rfl, ?hy41_201⟩) hS (by kernel_rfl) ?ha41_201 ?_
                  case hy41_201 => intro w_ hS_; first | (go_simp; done) | (go_simp; with_reducible rfl)
                  case ha41_201 => simp only [Act.put, List.setIfInBounds_toArray, List.set_cons_zero, List.set_cons_succ] <;> with_reducible rfl
                  refine takeD (i := 42) (ac2 := ?aa42_202) (v := undef) (d := some 100) (ls2 := (lsA 57 43)) rfl rfl (by kernel_rfl) (by kernel_rfl) (by kernel_rfl) (fun _ _ _ h => h) (Or.inr ⟨by kernel_rfl, rfl⟩) hS (by kernel_rfl) ?ha42_202 ?_
                  case ha42_202 => simp only [Act.put, List.setIfInBounds_toArray, List.set_cons_zero, List.set_cons_succ] <;> with_reducible rfl
                  refine takeD (i := 43) (ac2 := ?aa43_203) (v := undef) (d := some 101) (ls2 := (lsA 57 44)) rfl rfl (by kernel_rfl) (by kernel_rfl) (by kernel_rfl) (fun _ _ _ h => h) (Or.inr ⟨by kernel_rfl, rfl⟩) hS (by kernel_rfl) ?ha43_203 ?_
                  case ha43_203 => simp only [Act.put, List.setIfInBounds_toArray, List.set_cons_zero, List.set_cons_succ] <;> with_reducible rfl
                  refine takeD (i := 44) (ac2 := ?aa44_204) (v := undef) (d := some 102) (ls2 := (lsA 57 45)) rfl rfl (by kernel_rfl) (by kernel_rfl) (by kernel_rfl) (fun _ _ _ h => h) (Or.inr ⟨by kernel_rfl, rfl⟩) hS (by kernel_rfl) ?ha44_204 ?_
                  case ha44_204 => simp only [Act.put, List.setIfInBounds_toArray, List.set_cons_zero, List.set_cons_succ] <;> with_reducible rfl
                  refine takeD (i := 45) (ac2 := ?aa45_205) (v := undef) (d := some 103) (ls2 := (lsA 57 46)) rfl rfl (by kernel_rfl) (by kernel_rfl) (by kernel_rfl) (fun _ _ _ h => h) (Or.inr ⟨by kernel_rfl, rfl⟩) hS (by kernel_rfl) ?ha45_205 ?_
                  case ha45_205 => simp only [Act.put, List.setIfInBounds_toArray, List.set_cons_zero, List.set_cons_succ] <;> with_reducible rfl
                  refine takeD (i := 46) (ac2 := ?aa46_206) (v := undef) (d := some 104) (ls2 := (lsA 57 47)) rfl rfl (by kernel_rfl) (by kernel_rfl) (by kernel_rfl) (fun _ _ _ h => h) (Or.inr ⟨by kernel_rfl, rfl⟩) hS (by kernel_rfl) ?ha46_206 ?_
                  case ha46_206 => simp only [Act.put, List.setIfInBounds_toArray, List.set_cons_zero, List.set_cons_succ] <;> with_reducible rfl
                  refine takeD (i := 47) (ac2 := ?aa47_207) (v := undef) (d := some 105) (ls2 := (lsA 57 48)) rfl rfl (by kernel_rfl) (by kernel_rfl) (by kernel_rfl) (fun _ _ _ h => h) (Or.inr ⟨by kernel_rfl, rfl⟩) hS (by kernel_rfl) ?ha47_207 ?_
                  case ha47_207 => simp only [Act.put, List.setIfInBounds_toArray, List.set_cons_zero, List.set_cons_succ] <;> with_reducible rfl
                  refine takeD (i := 48) (ac2 := ?aa48_208) (v := undef) (d := some 106) (ls2 := (lsA 57 49)) rfl rfl (by kernel_rfl) (by kernel_rfl) (by kernel_rfl) (fun _ _ _ h => h) (Or.inr ⟨by kernel_rfl, rfl⟩) hS (by kernel_rfl) ?ha48_208 ?_
                  case ha48_208 => simp only [Act.put, List.setIfInBounds_toArray, List.set_cons_zero, List.set_cons_succ] <;> with_reducible rfl
                  refine takeD (i := 49) (ac2 := ?aa49_209) (v := undef) (d := some 107) (ls2 := (lsA 57 50)) rfl rfl (by kernel_rfl) (by kernel_rfl) (by kernel_rfl) (fun _ _ _ h => h) (Or.inr ⟨by kernel_rfl, rfl⟩) hS (by kernel_rfl) ?ha49_209 ?_
                  case ha49_209 => simp only [Act.put, List.setIfInBounds_toArray, List.set_cons_zero, List.set_cons_succ] <;> with_reducible rfl
                  refine takeD (i := 50) (ac2 := ?aa50_210) (v := undef) (d := some 108) (ls2 := (lsA 57 51)) rfl rfl (by kernel_rfl) (by kernel_rfl) (by kernel_rfl) (fun _ _ _ h => h) (Or.inr ⟨by kernel_rfl, rfl⟩) hS (by kernel_rfl) ?ha50_210 ?_
                  case ha50_210 => simp only [Act.put, List.setIfInBounds_toArray, List.set_cons_zero, List.set_cons_succ] <;> with_reducible rfl
                  refine takeD (i := 51) (ac2 := ?aa51_211) (v := undef) (d := some 109) (ls2 := (lsA 57 52)) rfl rfl (by kernel_rfl) (by kernel_rfl) (by kernel_rfl) (fun _ _ _ h => h) (Or.inr ⟨by kernel_rfl, rfl⟩) hS (by kernel_rfl) ?ha51_211 ?_
                  case ha51_211 => simp only [Act.put, List.setIfInBounds_toArray, List.set_cons_zero, List.set_cons_succ] <;> with_reducible rfl
                  refine takeD (i := 52) (ac2 := ?aa52_212) (v := undef) (d := some 110) (ls2 := (lsA 57 53)) rfl rfl (by kernel_rfl) (by kernel_rfl) (by kernel_rfl) (fun _ _ _ h => h) (Or.inr ⟨by kernel_rfl, rfl⟩) hS (by kernel_rfl) ?ha52_212 ?_
                  case ha52_212 => simp only [Act.put, List.setIfInBounds_toArray, List.set_cons_zero, List.set_cons_succ] <;> with_reducible rfl
                  refine takeD (i := 53) (ac2 := ?aa53_213) (v := undef) (d := some 111) (ls2 := (lsA 57 54)) rfl rfl (by kernel_rfl) (by kernel_rfl) (by kernel_rfl) (fun _ _ _ h => h) (Or.inr ⟨by kernel_rfl, rfl⟩) hS (by kernel_rfl) ?ha53_213 ?_
                  case ha53_213 => simp only [Act.put, List.setIfInBounds_toArray, List.set_cons_zero, List.set_cons_succ] <;> with_reducible rfl
                  refine takeD (i := 54) (ac2 := ?aa54_214) (v := undef) (d := some 112) (ls2 := (lsA 57 55)) rfl rfl (by kernel_rfl) (by kernel_rfl) (by kernel_rfl) (fun _ _ _ h => h) (Or.inr ⟨by kernel_rfl, rfl⟩) hS (by kernel_rfl) ?ha54_214 ?_
                  case ha54_214 => simp only [Act.put, List.setIfInBounds_toArray, List.set_cons_zero, List.set_cons_succ] <;> with_reducible rfl
                  refine takeD (i := 55) (ac2 := ?aa55_215) (v := ?v55_215) (d := some 113) (ls2 := (lsA 57 56)) rfl rfl (by kernel_rfl) (by kernel_rfl) (by kernel_rfl) (fun _ _ _ h => h) (Or.inl ⟨by kernel_rfl, ?hy55_215⟩) hS (by kernel_rfl) ?ha55_215 ?_
                  case hy55_215 => intro w_ hS_; first | (go_simp; done) | (go_simp; with_reducible rfl)
                  case ha55_215 => simp only [Act.put, List.setIfInBounds_toArray, List.set_cons_zero, List.set_cons_succ] <;> with_reducible rfl
                  refine takeD (i := 56) (ac2 := ?aa56_216) (v := ?v56_216) (d := some 5) (ls2 := (lsA 57 57)) rfl rfl (by kernel_rfl) (by kernel_rfl) (by kernel_rfl) (fun _ _ _ h => h) (Or.inl ⟨by kernel_rfl, ?hy56_216⟩) hS (by kernel_rfl) ?ha56_216 ?_
                  case hy56_216 => intro w_ hS_; first | (go_simp; done) | (go_simp; with_reducible rfl)
                  case ha56_216 => simp only [Act.put, List.setIfInBounds_toArray, List.set_cons_zero, List.set_cons_succ] <;> with_reducible rfl
                  refine wpAnyH_done (by kernel_rfl) ?_ _
                  try go_simp
                  go_wp2
                  go_roundg gk
                  case measure => omega
                  case rel =>
                    have hu := HU.out
                    have hs := hS
                    refine ⟨i + 1, _, rfl, by first | rfl | (congr 1), by omega, by omega, HO.out, fun _ => HT.out, hu.trans ((HBX.out.trans (hs.mono HBX.out.size)).mono hu.size)⟩
                | false =>
                  refine takeD (i := 36) (ac2 := ?aa36_217) (v := ?v36_217) (d := some 94) (ls2 := (lsA 57 37)) rfl rfl (by kernel_rfl) (by kernel_rfl) (by kernel_rfl) (fun _ _ _ h => h) (Or.inl ⟨by kernel_rfl, ?hy36_217⟩) hS (by kernel_rfl) ?ha36_217 ?_
                  case hy36_217 => intro w_ hS_; first | (go_simp; done) | (go_simp; with_reducible rfl)
                  case ha36_217 => simp only [Act.put, List.setIfInBounds_toArray, List.set_cons_zero, List.set_cons_succ] <;> with_reducible rfl
                  refine takeD (i := 37) (ac2 := ?aa37_218) (v := ?v37_218) (d := some 95) (ls2 := (lsA 57 38)) rfl rfl (by kernel_rfl) (by kernel_rfl) (by kernel_rfl) (fun _ _ _ h => h) (Or.inl ⟨by kernel_rfl, ?hy37_218⟩) hS (by kernel_rfl) ?ha37_218 ?_
                  case hy37_218 => intro w_ hS_; (replace hS_ : Below WX.heap.size WX w_ := hS_); have X2_ := below_cell hS_ X2.out; have X3_ := below_cell hS_ X3.out; have X4_ := below_cell hS_ X4.out; have X5_ := below_cell hS_ X5.out; have X6_ := below_cell hS_ X6.out; have X7_ := below_cell hS_ X7.out; have X8_ := below_cell hS_ X8.out; have X9_ := below_cell hS_ X9.out; have X10_ := below_cell hS_ X10.out; have X11_ := below_cell hS_ X11.out; first | (go_simp; done) | (go_simp; with_reducible rfl)
                  case ha37_218 => simp only [Act.put, List.setIfInBounds_toArray, List.set_cons_zero, List.set_cons_succ] <;> with_reducible rfl
                  refine doD (i := 38) (ls2 := (lsA 57 39)) (by kernel_rfl) rfl (by kernel_rfl) (by kernel_rfl) (fun K hK => ?_)
                  go_simp
                  go_wp2_with (first | (go_at_call 47; go_loud ((with_reducible refine (hag.out _).mono ?_); rintro e w4 ⟨rfl, hb4⟩)))
                  refine hK.out _ _ ?_ (fun hS_ => ?_)
                  · show Below WX.heap.size WX _
                    exact hS.trans (hb4.mono hS.size)
                  clear hK K hS
                  have hS : Below WX.heap.size WX _ := hS_
                  clear hS_
                  cases b6 with
                  | false =>
                    refine takeD (i := 39) (ac2 := ?aa39_219) (v := ?v39_219) (d := some 97) (ls2 := (lsA 57 40)) rfl rfl (by kernel_rfl) (by kernel_rfl) (by kernel_rfl) (fun _ _ _ h => h) (Or.inl ⟨by kernel_rfl, ?hy39_219⟩) hS (by kernel_rfl) ?ha39_219 ?_
                    case hy39_219 => intro w_ hS_; first | (go_simp; done) | (go_simp; with_reducible rfl)
                    case ha39_219 => simp only [Act.put, List.setIfInBounds_toArray, List.set_cons_zero, List.set_cons_succ] <;> with_reducible rfl
                    refine takeD (i := 40) (ac2 := ?aa40_220) (v := ?v40_220) (d := some 98) (ls2 := (lsA 57 41)) rfl rfl (by kernel_rfl) (by kernel_rfl) (by kernel_rfl) (fun _ _ _ h => h) (Or.inl ⟨by kernel_rfl, ?hy40_220⟩) hS (by kernel_rfl) ?ha40_220 ?_
                    case hy40_220 => intro w_ hS_; first | (go_simp; done) | (go_simp; with_reducible rfl)
                    case ha40_220 => simp only [Act.put, List.setIfInBounds_toArray, List.set_cons_zero, List.set_cons_succ] <;> with_reducible rfl
                    refine takeD (i := 41) (ac2 := ?aa41_221) (v := ?v41_221) (d := some 99) (ls2 := (lsA 57 42)) rfl rfl (by kernel_rfl) (by kernel_rfl) (by kernel_rfl) (fun _ _ _ h => h) (Or.inl ⟨by kernel_rfl, ?hy41_221⟩) hS (by kernel_rfl) ?ha41_221 ?_
                    case hy41_221 => intro w_ hS_; first | (go_simp; done) | (go_simp; with_reducible rfl)
                    case ha41_221 => simp only [Act.put, List.setIfInBounds_toArray, List.set_cons_zero, List.set_cons_succ] <;> with_reducible rfl
                    refine takeD (i := 42) (ac2 := ?aa42_222) (v := undef) (d := some 100) (ls2 := (lsA 57 43)) rfl rfl (by kernel_rfl) (by kernel_rfl) (by kernel_rfl) (fun _ _ _ h => h) (Or.inr ⟨by kernel_rfl, rfl⟩) hS (by kernel_rfl) ?ha42_222 ?_
                    case ha42_222 => simp only [Act.put, List.setIfInBounds_toArray, List.set_cons_zero, List.set_cons_succ] <;> with_reducible rfl
                    refine takeD (i := 43) (ac2 := ?aa43_223) (v := undef) (d := some 101) (ls2 := (lsA 57 44)) rfl rfl (by kernel_rfl) (by kernel_rfl) (by kernel_rfl) (fun _ _ _ h => h) (Or.inr ⟨by kernel_rfl, rfl⟩) hS (by kernel_rfl) ?ha43_223 ?_
                    case ha43_223 => simp only [Act.put, List.setIfInBounds_toArray, List.set_cons_zero, List.set_cons_succ] <;> with_reducible rfl
                    refine takeD (i := 44) (ac2 := ?aa44_224) (v := undef) (d := some 102) (ls2 := (lsA 57 45)) rfl rfl (by kernel_rfl) (by kernel_rfl) (by kernel_rfl) (fun _ _ _ h => h) (Or.inr ⟨by kernel_rfl, rfl⟩) hS (by kernel_rfl) ?ha44_224 ?_
                    case ha44_224 => simp only [Act.put, List.setIfInBounds_toArray, List.set_cons_zero, List.set_cons_succ] <;> with_reducible rfl
                    refine takeD (i := 45) (ac2 := ?aa45_225) (v := undef) (d := some 103) (ls2 := (lsA 57 46)) rfl rfl (by kernel_rfl) (by kernel_rfl) (by kernel_rfl) (fun _ _ _ h => h) (Or.inr ⟨by kernel_rfl, rfl⟩) hS (by kernel_rfl) ?ha45_225 ?_
                    case ha45_225 => simp only [Act.put, List.setIfInBounds_toArray, List.set_cons_zero, List.set_cons_succ] <;> with_reducible rfl
                    refine takeD (i := 46) (ac2 := ?aa46_226) (v := undef) (d := some 104) (ls2 := (lsA 57 47)) rfl rfl (by kernel_rfl) (by kernel_rfl) (by kernel_rfl) (fun _ _ _ h => h) (Or.inr ⟨by kernel_rfl, rfl⟩) hS (by kernel_rfl) ?ha46_226 ?_
                    case ha46_226 => simp only [Act.put, List.setIfInBounds_toArray, List.set_cons_zero, List.set_cons_succ] <;> with_reducible rfl
                    refine takeD (i := 47) (ac2 := ?aa47_227) (v := undef) (d := some 105) (ls2 := (lsA 57 48)) rfl rfl (by kernel_rfl) (by kernel_rfl) (by kernel_rfl) (fun _ _ _ h => h) (Or.inr ⟨by kernel_rfl, rfl⟩) hS (by kernel_rfl) ?ha47_227 ?_
                    case ha47_227 => simp only [Act.put, List.setIfInBounds_toArray, List.set_cons_zero, List.set_cons_succ] <;> with_reducible rfl
                    refine takeD (i := 48) (ac2 := ?aa48_228) (v := undef) (d := some 106) (ls2 := (lsA 57 49)) rfl rfl (by kernel_rfl) (by kernel_rfl) (by kernel_rfl) (fun _ _ _ h => h) (Or.inr ⟨by kernel_rfl, rfl⟩) hS (by kernel_rfl) ?ha48_228 ?_
                    case ha48_228 => simp only [Act.put, List.setIfInBounds_toArray, List.set_cons_zero, List.set_cons_succ] <;> with_reducible rfl
                    refine takeD (i := 49) (ac2 := ?aa49_229) (v := undef) (d := some 107) (ls2 := (lsA 57 50)) rfl rfl (by kernel_rfl) (by kernel_rfl) (by kernel_rfl) (fun _ _ _ h => h) (Or.inr ⟨by kernel_rfl, rfl⟩) hS (by kernel_rfl) ?ha49_229 ?_
                    case ha49_229 => simp only [Act.put, List.setIfInBounds_toArray, List.set_cons_zero, List.set_cons_succ] <;> with_reducible rfl
                    refine takeD (i := 50) (ac2 := ?aa50_230) (v := undef) (d := some 108) (ls2 := (lsA 57 51)) rfl rfl (by kernel_rfl) (by kernel_rfl) (by kernel_rfl) (fun _ _ _ h => h) (Or.inr ⟨by kernel_rfl, rfl⟩) hS (by kernel_rfl) ?ha50_230 ?_
                    case ha50_230 => simp only [Act.put, List.setIfInBounds_toArray, List.set_cons_zero, List.set_cons_succ] <;> with_reducible rfl
                    refine takeD (i := 51) (ac2 := ?aa51_231) (v := undef) (d := some 109) (ls2 := (lsA 57 52)) rfl rfl (by kernel_rfl) (by kernel_rfl) (by kernel_rfl) (fun _ _ _ h => h) (Or.inr ⟨by kernel_rfl, rfl⟩) hS (by kernel_rfl) ?ha51_231 ?_
                    case ha51_231 => simp only [Act.put, List.setIfInBounds_toArray, List.set_cons_zero, List.set_cons_succ] <;> with_reducible rfl
                    refine takeD (i := 52) (ac2 := ?aa52_232) (v := undef) (d := some 110) (ls2 := (lsA 57 53)) rfl rfl (by kernel_rfl) (by kernel_rfl) (by kernel_rfl) (fun _ _ _ h => h) (Or.inr ⟨by kernel_rfl, rfl⟩) hS (by kernel_rfl) ?ha52_232 ?_
                    case ha52_232 => simp only [Act.put, List.setIfInBounds_toArray, List.set_cons_zero, List.set_cons_succ] <;> with_reducible rfl
                    refine takeD (i := 53) (ac2 := ?aa53_233) (v := undef) (d := some 111) (ls2 := (lsA 57 54)) rfl rfl (by kernel_rfl) (by kernel_rfl) (by kernel_rfl) (fun _ _ _ h => h) (Or.inr ⟨by kernel_rfl, rfl⟩) hS (by kernel_rfl) ?ha53_233 ?_
                    case ha53_233 => simp only [Act.put, List.setIfInBounds_toArray, List.set_cons_zero, List.set_cons_succ] <;> with_reducible rfl
                    refine takeD (i := 54) (ac2 := ?aa54_234) (v := undef) (d := some 112) (ls2 := (lsA 57 55)) rfl rfl (by kernel_rfl) (by kernel_rfl) (by kernel_rfl) (fun _ _ _ h => h) (Or.inr ⟨by kernel_rfl, rfl⟩) hS (by kernel_rfl) ?ha54_234 ?_
                    case ha54_234 => simp only [Act.put, List.setIfInBounds_toArray, List.set_cons_zero, List.set_cons_succ] <;> with_reducible rfl
                    refine takeD (i := 55) (ac2 := ?aa55_235) (v := ?v55_235) (d := some 113) (ls2 := (lsA 57 56)) rfl rfl (by kernel_rfl) (by kernel_rfl) (by kernel_rfl) (fun _ _ _ h => h) (Or.inl ⟨by kernel_rfl, ?hy55_235⟩) hS (by kernel_rfl) ?ha55_235 ?_
                    case hy55_235 => intro w_ hS_; first | (go_simp; done) | (go_simp; with_reducible rfl)
                    case ha55_235 => simp only [Act.put, List.setIfInBounds_toArray, List.set_cons_zero, List.set_cons_succ] <;> with_reducible rfl
                    refine takeD (i := 56) (ac2 := ?aa56_236) (v := ?v56_236) (d := some 5) (ls2 := (lsA 57 57)) rfl rfl (by kernel_rfl) (by kernel_rfl) (by kernel_rfl) (fun _ _ _ h => h) (Or.inl ⟨by kernel_rfl, ?hy56_236⟩) hS (by kernel_rfl) ?ha56_236 ?_
                    case hy56_236 => intro w_ hS_; first | (go_simp; done) | (go_simp; with_reducible rfl)
                    case ha56_236 => simp only [Act.put, List.setIfInBounds_toArray, List.set_cons_zero, List.set_cons_succ] <;> with_reducible rfl
                    refine wpAnyH_done (by kernel_rfl) ?_ _
                    try go_simp
                    go_wp2
                    go_roundg gk
                    case measure => omega
                    case rel =>
                      have hu := HU.out
                      have hs := hS
                      refine ⟨i + 1, _, rfl, by first | rfl | (congr 1), by omega, by omega, HO.out, fun _ => HT.out, hu.trans ((HBX.out.trans (hs.mono HBX.out.size)).mono hu.size)⟩
                  | true =>
                    refine takeD (i := 39) (ac2 := ?aa39_237) (v := ?v39_237) (d := some 97) (ls2 := (lsA 57 40)) rfl rfl (by kernel_rfl) (by kernel_rfl) (by kernel_rfl) (fun _ _ _ h => h) (Or.inl ⟨by kernel_rfl, ?hy39_237⟩) hS (by kernel_rfl) ?ha39_237 ?_
                    case hy39_237 => intro w_ hS_; first | (go_simp; done) | (go_simp; with_reducible rfl)
                    case ha39_237 => simp only [Act.put, List.setIfInBounds_toArray, List.set_cons_zero, List.set_cons_succ] <;> with_reducible rfl
                    refine takeD (i := 40) (ac2 := ?aa40_238) (v := ?v40_238) (d := some 98) (ls2 := (lsA 57 41)) rfl rfl (by kernel_rfl) (by kernel_rfl) (by kernel_rfl) (fun _ _ _ h => h) (Or.inl ⟨by kernel_rfl, ?hy40_238⟩) hS (by kernel_rfl) ?ha40_238 ?_
                    case hy40_238 => intro w_ hS_; first | (go_simp; done) | (go_simp; with_reducible rfl)
                    case ha40_238 => simp only [Act.put, List.setIfInBounds_toArray, List.set_cons_zero, List.set_cons_succ] <;> with_reducible rfl
                    refine takeD (i := 41) (ac2 := ?aa41_239) (v := ?v41_239) (d := some 99) (ls2 := (lsA 57 42)) rfl rfl (by kernel_rfl) (by kernel_rfl) (by kernel_rfl) (fun _ _ _ h => h) (Or.inl ⟨by kernel_rfl, ?hy41_239⟩) hS (by kernel_rfl) ?ha41_239 ?_
                    case hy41_239 => intro w_ hS_; first | (go_simp; done) | (go_simp; with_reducible rfl)
                    case ha41_239 => simp only [Act.put, List.setIfInBounds_toArray, List.set_cons_zero, List.set_cons_succ] <;> with_reducible rfl
                    refine takeD (i := 42) (ac2 := ?aa42_240) (v := ?v42_240) (d := some 100) (ls2 := (lsA 57 43)) rfl rfl (by kernel_rfl) (by kernel_rfl) (by kernel_rfl) (fun _ _ _ h => h) (Or.inl ⟨by kernel_rfl, ?hy42_240⟩) hS (by kernel_rfl) ?ha42_240 ?_
                    case hy42_240 => intro w_ hS_; first | (go_simp; done) | (go_simp; with_reducible rfl)
                    case ha42_240 => simp only [Act.put, List.setIfInBounds_toArray, List.set_cons_zero, List.set_cons_succ] <;> with_reducible rfl
                    refine takeD (i := 43) (ac2 := ?aa43_241) (v := ?v43_241) (d := some 101) (ls2 := (lsA 57 44)) rfl rfl (by kernel_rfl) (by kernel_rfl) (by kernel_rfl) (fun _ _ _ h => h) (Or.inl ⟨by kernel_rfl, ?hy43_241⟩) hS (by kernel_rfl) ?ha43_241 ?_
                    case hy43_241 => intro w_ hS_; first | (go_simp; done) | (go_simp; with_reducible rfl)
                    case ha43_241 => simp only [Act.put, List.setIfInBounds_toArray, List.set_cons_zero, List.set_cons_succ] <;> with_reducible rfl
                    refine takeD (i := 44) (ac2 := ?aa44_242) (v := ?v44_242) (d := some 102) (ls2 := (lsA 57 45)) rfl rfl (by kernel_rfl) (by kernel_rfl) (by kernel_rfl) (fun _ _ _ h => h) (Or.inl ⟨by kernel_rfl, ?hy44_242⟩) hS (by kernel_rfl) ?ha44_242 ?_
                    case hy44_242 => intro w_ hS_; first | (go_simp; done) | (go_simp; with_reducible rfl)
                    case ha44_242 => simp only [Act.put, List.setIfInBounds_toArray, List.set_cons_zero, List.set_cons_succ] <;> with_reducible rfl
                    cases b7 with
                    | true =>
                      refine takeD (i := 45) (ac2 := ?aa45_243) (v := undef) (d := some 103) (ls2 := (lsA 57 46)) rfl rfl (by kernel_rfl) (by kernel_rfl) (by kernel_rfl) (fun _ _ _ h => h) (Or.inr ⟨by kernel_rfl, rfl⟩) hS (by kernel_rfl) ?ha45_243 ?_
                      case ha45_243 => simp only [Act.put, List.setIfInBounds_toArray, List.set_cons_zero, List.set_cons_succ] <;> with_reducible rfl
                      refine takeD (i := 46) (ac2 := ?aa46_244) (v := undef) (d := some 104) (ls2 := (lsA 57 47)) rfl rfl (by kernel_rfl) (by kernel_rfl) (by kernel_rfl) (fun _ _ _ h => h) (Or.inr ⟨by kernel_rfl, rfl⟩) hS (by kernel_rfl) ?ha46_244 ?_
                      case ha46_244 => simp only [Act.put, List.setIfInBounds_toArray, List.set_cons_zero, List.set_cons_succ] <;> with_reducible rfl
                      refine takeD (i := 47) (ac2 := ?aa47_245) (v := undef) (d := some 105) (ls2 := (lsA 57 48)) rfl rfl (by kernel_rfl) (by kernel_rfl) (by kernel_rfl) (fun _ _ _ h => h) (Or.inr ⟨by kernel_rfl, rfl⟩) hS (by kernel_rfl) ?ha47_245 ?_
                      case ha47_245 => simp only [Act.put, List.setIfInBounds_toArray, List.set_cons_zero, List.set_cons_succ] <;> with_reducible rfl
                      refine takeD (i := 48) (ac2 := ?aa48_246) (v := undef) (d := some 106) (ls2 := (lsA 57 49)) rfl rfl (by kernel_rfl) (by kernel_rfl) (by kernel_rfl) (fun _ _ _ h => h) (Or.inr ⟨by kernel_rfl, rfl⟩) hS (by kernel_rfl) ?ha48_246 ?_
                      case ha48_246 => simp only [Act.put, List.setIfInBounds_toArray, List.set_cons_zero, List.set_cons_succ] <;> with_reducible rfl
                      refine takeD (i := 49) (ac2 := ?aa49_247) (v := undef) (d := some 107) (ls2 := (lsA 57 50)) rfl rfl (by kernel_rfl) (by kernel_rfl) (by kernel_rfl) (fun _ _ _ h => h) (Or.inr ⟨by kernel_rfl, rfl⟩) hS (by kernel_rfl) ?ha49_247 ?_
                      case ha49_247 => simp only [Act.put, List.setIfInBounds_toArray, List.set_cons_zero, List.set_cons_succ] <;> with_reducible rfl
                      refine takeD (i := 50) (ac2 := ?aa50_248) (v := undef) (d := some 108) (ls2 := (lsA 57 51)) rfl rfl (by kernel_rfl) (by kernel_rfl) (by kernel_rfl) (fun _ _ _ h => h) (Or.inr ⟨by kernel_rfl, rfl⟩) hS (by kernel_rfl) ?ha50_248 ?_
                      case ha50_248 => simp only [Act.put, List.setIfInBounds_toArray, List.set_cons_zero, List.set_cons_succ] <;> with_reducible rfl
                      refine takeD (i := 51) (ac2 := ?aa51_249) (v := undef) (d := some 109) (ls2 := (lsA 57 52)) rfl rfl (by kernel_rfl) (by kernel_rfl) (by kernel_rfl) (fun _ _ _ h => h) (Or.inr ⟨by kernel_rfl, rfl⟩) hS (by kernel_rfl) ?ha51_249 ?_
                      case ha51_249 => simp only [Act.put, List.setIfInBounds_toArray, List.set_cons_zero, List.set_cons_succ] <;> with_reducible rfl
                      refine takeD (i := 52) (ac2 := ?aa52_250) (v := undef) (d := some 110) (ls2 := (lsA 57 53)) rfl rfl (by kernel_rfl) (by kernel_rfl) (by kernel_rfl) (fun _ _ _ h => h) (Or.inr ⟨by kernel_rfl, rfl⟩) hS (by kernel_rfl) ?ha52_250 ?_
                      case ha52_250 => simp only [Act.put, List.setIfInBounds_toArray, List.set_cons_zero, List.set_cons_succ] <;> with_reducible rfl
                      refine takeD (i := 53) (ac2 := ?aa53_251) (v := undef) (d := some 111) (ls2 := (lsA 57 54)) rfl rfl (by kernel_rfl) (by kernel_rfl) (by kernel_rfl) (fun _ _ _ h => h) (Or.inr ⟨by kernel_rfl, rfl⟩) hS (by kernel_rfl) ?ha53_251 ?_
                      case ha53_251 => simp only [Act.put, List.setIfInBounds_toArray, List.set_cons_zero, List.set_cons_succ] <;> with_reducible rfl
                      refine takeD (i := 54) (ac2 := ?aa54_252) (v := ?v54_252) (d := some 112) (ls2 := (lsA 57 55)) rfl rfl (by kernel_rfl) (by kernel_rfl) (by kernel_rfl) (fun _ _ _ h => h) (Or.inl ⟨by kernel_rfl, ?hy54_252⟩) hS (by kernel_rfl) ?ha54_252 ?_
                      case hy54_252 => intro w_ hS_; first | (go_simp; done) | (go_simp; with_reducible rfl)
                      case ha54_252 => simp only [Act.put, List.setIfInBounds_toArray, List.set_cons_zero, List.set_cons_succ] <;> with_reducible rfl
                      refine takeD (i := 55) (ac2 := ?aa55_253) (v := ?v55_253) (d := some 113) (ls2 := (lsA 57 56)) rfl rfl (by kernel_rfl) (by kernel_rfl) (by kernel_rfl) (fun _ _ _ h => h) (Or.inl ⟨by kernel_rfl, ?hy55_253⟩) hS (by kernel_rfl) ?ha55_253 ?_
                      case hy55_253 => intro w_ hS_; first | (go_simp; done) | (go_simp; with_reducible rfl)
                      case ha55_253 => simp only [Act.put, List.setIfInBounds_toArray, List.set_cons_zero, List.set_cons_succ] <;> with_reducible rfl
                      refine takeD (i := 56) (ac2 := ?aa56_254) (v := ?v56_254) (d := some 5) (ls2 := (lsA 57 57)) rfl rfl (by kernel_rfl) (by kernel_rfl) (by kernel_rfl) (fun _ _ _ h => h) (Or.inl ⟨by kernel_rfl, ?hy56_254⟩) hS (by kernel_rfl) ?ha56_254 ?_
                      case hy56_254 => intro w_ hS_; first | (go_simp; done) | (go_simp; with_reducible rfl)
                      case ha56_254 => simp only [Act.put, List.setIfInBounds_toArray, List.set_cons_zero, List.set_cons_succ] <;> with_reducible rfl
                      refine wpAnyH_done (by kernel_rfl) ?_ _
                      try go_simp
                      go_wp2
                      go_roundg gk
                      case measure => omega
                      case rel =>
                        have hu := HU.out
                        have hs := hS
                        refine ⟨i + 1, _, rfl, by first | rfl | (congr 1), by omega, by omega, HO.out, fun _ => HT.out, hu.trans ((HBX.out.trans (hs.mono HBX.out.size)).mono hu.size)⟩
                    | false =>
                      have hi0 : i ≠ 0 := fun e => by rw [e] at d7; cases d7
                      obtain ⟨n, rfl⟩ : ∃ n, i = n + 1 := ⟨i - 1, by omega⟩
                      obtain ⟨ad2, had2, P0, P1, P2, P3, P4, P5, P6, P7, P8, P9, P10, P11⟩ := at_T46 HRX.out (n : Int) (by omega) (by omega)
                      cases had2
                      have hwn : IntKind.i64.wrap (n : Int) = (n : Int) := by rw [IntKind.wrap_i64]; omega
                      have hbn : (0 : Int) ≤ (n : Int) ∧ (n : Int) < (s.f4.length : Int) := by omega
                      have hyn := HY.out
                      rw [show ((n + 1 : Nat) : Int) - 1 = (n : Int) by omega] at hyn
                      rw [Int.toNat_natCast, hyn] at P0 P1 P2 P3 P4 P5 P6 P7 P8 P9 P10 P11
                      clear hyn
                      replace P0 := Lib.hid P0; replace P1 := Lib.hid P1; replace P2 := Lib.hid P2; replace P3 := Lib.hid P3; replace P4 := Lib.hid P4; replace P5 := Lib.hid P5; replace P6 := Lib.hid P6; replace P7 := Lib.hid P7; replace P8 := Lib.hid P8; replace P9 := Lib.hid P9; replace P10 := Lib.hid P10; replace P11 := Lib.hid P11
                      refine takeD (i := 45) (ac2 := ?aa45_255) (v := ?v45_255) (d := some 103) (ls2 := (lsA 57 46)) rfl rfl (by kernel_rfl) (by kernel_rfl) (by kernel_rfl) (fun _ _ _ h => h) (Or.inl ⟨by kernel_rfl, ?hy45_255⟩) hS (by kernel_rfl) ?ha45_255 ?_
                      case hy45_255 => intro w_ hS_; first | (go_simp; done) | (go_simp; with_reducible rfl)
                      case ha45_255 => simp only [Act.put, List.setIfInBounds_toArray, List.set_cons_zero, List.set_cons_succ] <;> with_reducible rfl
                      refine takeD (i := 46) (ac2 := ?aa46_256) (v := ?v46_256) (d := some 104) (ls2 := (lsA 57 47)) rfl rfl (by kernel_rfl) (by kernel_rfl) (by kernel_rfl) (fun _ _ _ h => h) (Or.inl ⟨by kernel_rfl, ?hy46_256⟩) hS (by kernel_rfl) ?ha46_256 ?_
                      case hy46_256 => intro w_ hS_; (replace hS_ : Below WX.heap.size WX w_ := hS_); have S4_ := below_cell hS_ S4.out; first | (go_simp; done) | (go_simp; with_reducible rfl)
                      case ha46_256 => simp only [Act.put, List.setIfInBounds_toArray, List.set_cons_zero, List.set_cons_succ] <;> with_reducible rfl
                      refine takeD (i := 47) (ac2 := ?aa47_257) (v := ?v47_257) (d := some 105) (ls2 := (lsA 57 48)) rfl rfl (by kernel_rfl) (by kernel_rfl) (by kernel_rfl) (fun _ _ _ h => h) (Or.inl ⟨by kernel_rfl, ?hy47_257⟩) hS (by kernel_rfl) ?ha47_257 ?_
                      case hy47_257 => intro w_ hS_; first | (go_simp; done) | (go_simp; with_reducible rfl)
                      case ha47_257 => simp only [Act.put, List.setIfInBounds_toArray, List.set_cons_zero, List.set_cons_succ] <;> with_reducible rfl
                      refine takeD (i := 48) (ac2 := ?aa48_258) (v := ?v48_258) (d := some 106) (ls2 := (lsA 57 49)) rfl rfl (by kernel_rfl) (by kernel_rfl) (by kernel_rfl) (fun _ _ _ h => h) (Or.inl ⟨by kernel_rfl, ?hy48_258⟩) hS (by kernel_rfl) ?ha48_258 ?_
                      case hy48_258 => intro w_ hS_; first | (go_simp; done) | (go_simp; with_reducible rfl)
                      case ha48_258 => simp only [Act.put, List.setIfInBounds_toArray, List.set_cons_zero, List.set_cons_succ] <;> with_reducible rfl
                      refine takeD (i := 49) (ac2 := ?aa49_259) (v := ?v49_259) (d := some 107) (ls2 := (lsA 57 50)) rfl rfl (by kernel_rfl) (by kernel_rfl) (by kernel_rfl) (fun _ _ _ h => h) (Or.inl ⟨by kernel_rfl, ?hy49_259⟩) hS (by kernel_rfl) ?ha49_259 ?_
                      case hy49_259 => intro w_ hS_; first | (go_simp; done) | (go_simp; with_reducible rfl)
                      case ha49_259 => simp only [Act.put, List.setIfInBounds_toArray, List.set_cons_zero, List.set_cons_succ] <;> with_reducible rfl
                      refine takeD (i := 50) (ac2 := ?aa50_260) (v := ?v50_260) (d := some 108) (ls2 := (lsA 57 51)) rfl rfl (by kernel_rfl) (by kernel_rfl) (by kernel_rfl) (fun _ _ _ h => h) (Or.inl ⟨by kernel_rfl, ?hy50_260⟩) hS (by kernel_rfl) ?ha50_260 ?_
                      case hy50_260 => intro w_ hS_; (replace hS_ : Below WX.heap.size WX w_ := hS_); have P0_ := below_cell hS_ P0.out; have P1_ := below_cell hS_ P1.out; have P2_ := below_cell hS_ P2.out; have P3_ := below_cell hS_ P3.out; have P4_ := below_cell hS_ P4.out; have P5_ := below_cell hS_ P5.out; have P6_ := below_cell hS_ P6.out; have P7_ := below_cell hS_ P7.out; have P8_ := below_cell hS_ P8.out; have P9_ := below_cell hS_ P9.out; have P10_ := below_cell hS_ P10.out; have P11_ := below_cell hS_ P11.out; first | (go_simp; done) | (go_simp; with_reducible rfl)
                      case ha50_260 => simp only [Act.put, List.setIfInBounds_toArray, List.set_cons_zero, List.set_cons_succ] <;> with_reducible rfl
                      refine takeD (i := 51) (ac2 := ?aa51_261) (v := ?v51_261) (d := some 109) (ls2 := (lsA 57 52)) rfl rfl (by kernel_rfl) (by kernel_rfl) (by kernel_rfl) (fun _ _ _ h => h) (Or.inl ⟨by kernel_rfl, ?hy51_261⟩) hS (by kernel_rfl) ?ha51_261 ?_
                      case hy51_261 => intro w_ hS_; (replace hS_ : Below WX.heap.size WX w_ := hS_); have X0_ := below_cell hS_ X0.out; have X1_ := below_cell hS_ X1.out; have X2_ := below_cell hS_ X2.out; have X3_ := below_cell hS_ X3.out; have X4_ := below_cell hS_ X4.out; have X5_ := below_cell hS_ X5.out; have X6_ := below_cell hS_ X6.out; have X7_ := below_cell hS_ X7.out; have X8_ := below_cell hS_ X8.out; have X9_ := below_cell hS_ X9.out; have X10_ := below_cell hS_ X10.out; have X11_ := below_cell hS_ X11.out; first | (go_simp; done) | (go_simp; with_reducible rfl)
                      case ha51_261 => simp only [Act.put, List.setIfInBounds_toArray, List.set_cons_zero, List.set_cons_succ] <;> with_reducible rfl
                      refine doD (i := 52) (ls2 := (lsA 57 53)) (by kernel_rfl) rfl (by kernel_rfl) (by kernel_rfl) (fun K hK => ?_)
                      go_simp
                      go_wp2_with (first | (go_at_call 48; go_loud ((with_reducible refine (hor.out _).mono ?_); rintro e w5 ⟨rfl, hb5⟩)))
                      refine hK.out _ _ ?_ (fun hS_ => ?_)
                      · show Below WX.heap.size WX _
                        exact hS.trans (hb5.mono hS.size)
                      clear hK K hS
                      have hS : Below WX.heap.size WX _ := hS_
                      clear hS_
                      refine takeD (i := 53) (ac2 := ?aa53_262) (v := ?v53_262) (d := some 111) (ls2 := (lsA 57 54)) rfl rfl (by kernel_rfl) (by kernel_rfl) (by kernel_rfl) (fun _ _ _ h => h) (Or.inl ⟨by kernel_rfl, ?hy53_262⟩) hS (by kernel_rfl) ?ha53_262 ?_
                      case hy53_262 => intro w_ hS_; first | (go_simp; done) | (go_simp; with_reducible rfl)
                      case ha53_262 => simp only [Act.put, List.setIfInBounds_toArray, List.set_cons_zero, List.set_cons_succ] <;> with_reducible rfl
                      refine takeD (i := 54) (ac2 := ?aa54_263) (v := ?v54_263) (d := some 112) (ls2 := (lsA 57 55)) rfl rfl (by kernel_rfl) (by kernel_rfl) (by kernel_rfl) (fun _ _ _ h => h) (Or.inl ⟨by kernel_rfl, ?hy54_263⟩) hS (by kernel_rfl) ?ha54_263 ?_
                      case hy54_263 => intro w_ hS_; first | (go_simp; done) | (go_simp; with_reducible rfl)
                      case ha54_263 => simp only [Act.put, List.setIfInBounds_toArray, List.set_cons_zero, List.set_cons_succ] <;> with_reducible rfl
                      refine takeD (i := 55) (ac2 := ?aa55_264) (v := ?v55_264) (d := some 113) (ls2 := (lsA 57 56)) rfl rfl (by kernel_rfl) (by kernel_rfl) (by kernel_rfl) (fun _ _ _ h => h) (Or.inl ⟨by kernel_rfl, ?hy55_264⟩) hS (by kernel_rfl) ?ha55_264 ?_
                      case hy55_264 => intro w_ hS_; first | (go_simp; done) | (go_simp; with_reducible rfl)
                      case ha55_264 => simp only [Act.put, List.setIfInBounds_toArray, List.set_cons_zero, List.set_cons_succ] <;> with_reducible rfl
                      refine takeD (i := 56) (ac2 := ?aa56_265) (v := ?v56_265) (d := some 5) (ls2 := (lsA 57 57)) rfl rfl (by kernel_rfl) (by kernel_rfl) (by kernel_rfl) (fun _ _ _ h => h) (Or.inl ⟨by kernel_rfl, ?hy56_265⟩) hS (by kernel_rfl) ?ha56_265 ?_
                      case hy56_265 => intro w_ hS_; first | (go_simp; done) | (go_simp; with_reducible rfl)
                      case ha56_265 => simp only [Act.put, List.setIfInBounds_toArray, List.set_cons_zero, List.set_cons_succ] <;> with_reducible rfl
                      refine wpAnyH_done (by kernel_rfl) ?_ _
                      try go_simp
                      go_wp2
                      go_roundg gk
                      case measure => omega
                      case rel =>
                        have hu := HU.out
                        have hs := hS
                        refine ⟨n + 1 + 1, _, rfl, by first | rfl | (congr 1), by omega, by omega, HO.out, fun _ => HT.out, hu.trans ((HBX.out.trans (hs.mono HBX.out.size)).mono hu.size)⟩
end Go.Proofs.Ytgipepjpkmlmaaa.P
