import Derived.Test.YtgipepjpkmlmaaaQO1
import Derived.Test.YtgipepjpkmlmaaaQO2
import Derived.Test.YtgipepjpkmlmaaaQO3
import Derived.Test.YtgipepjpkmlmaaaQO4
import Derived.Test.YtgipepjpkmlmaaaQO5
import Derived.Test.YtgipepjpkmlmaaaQO6
import Derived.Test.YtgipepjpkmlmaaaQO7
import Derived.Test.YtgipepjpkmlmaaaQO8
import Derived.Test.YtgipepjpkmlmaaaQO9
import Derived.Test.YtgipepjpkmlmaaaQO10
import Derived.Test.YtgipepjpkmlmaaaQO12
import Derived.Test.YtgipepjpkmlmaaaQO13
import Derived.Test.YtgipepjpkmlmaaaQO15
import Derived.Test.YtgipepjpkmlmaaaQO17
namespace Go.Proofs.Ytgipepjpkmlmaaa.P
open Go.RowKit Go.Proofs.YtgipepjpkmlmaaaW.PrintWords Go.Proofs.YtgipepjpkmlmaaaW.PrintLast Go.Proofs.YtgipepjpkmlmaaaW.PrintMore
set_option linter.unusedVariables false
set_option linter.unusedSimpArgs false
theorem step_head (s b : S28) (hb : stateR b) (hl : s.f4.length ≤ 1000) : Step s (headR b) ⟨b.f0, b.f1, b.f2, b.f3, s.f4⟩ := by
  intro A c w hr hc
  obtain ⟨i, hi⟩ := place_at s.f4 ⟨0, 0, z44⟩
  have hR := headL_R hb
  have h0 : tkL (headR b).f2 11 0 0 = (0, numsT [b.f0, b.f1, b.f2, b.f3], 0) := take_nums 0 [b.f0, b.f1, b.f2, b.f3] (by omega) (by omega)
  have hv : ∀ v ∈ [b.f0, b.f1, b.f2, b.f3], -9223372036854775808 ≤ v ∧ v ≤ 9223372036854775807 := fun v h => hR v (List.mem_cons_of_mem _ h)
  exact apply0_calls s (headR b) (numsT [b.f0, b.f1, b.f2, b.f3]) i b.f0 b.f1 b.f2 b.f3 (takeAll_nums [b.f0, b.f1, b.f2, b.f3] hv) rfl rfl A c w hr hc hl h0 (Nat.le_trans (numsT_size _ hR) (by show 10 * 5 ≤ _; omega)) hi
theorem told_take (c : S46) (hc : cellR c) (hok : aggOk c.f2 = true) : tkL (tellH c).f2 11 0 0 = (1, numsT (aggL c.f2), 0) ∧ (tellH c).f2.size ≤ 1000000 := by
  constructor
  · show tkL (numT 1 ++ encT c.f2) 11 0 0 = _
    have e : encT c.f2 = numsT (aggL c.f2) := if_pos hok
    rw [e]
    exact take_num 1 (by omega) (by omega) _
  · show (numT 1 ++ encT c.f2).size ≤ _
    rw [ByteArray.size_append]
    have h1 := numT_size 1 (by omega) (by omega)
    have h2 := encT_size c.f2 hc.ag
    omega
theorem step_new (s : S28) (c : S46) (hc : cellR c) (hok : aggOk c.f2 = true) (hl : s.f4.length ≤ 1000) (i : Nat) (hi : placeOk s.f4 ⟨c.f0, c.f1, z44⟩ i) (his : isP s.f4 ⟨c.f0, c.f1, z44⟩ i = false) :
    Step s (tellH c) ⟨s.f0, s.f1, s.f2, s.f3, s.f4.take i ++ c :: s.f4.drop i⟩ := by
  intro A k w hr hk
  have ht := told_take c hc hok
  exact apply1_calls s (tellH c) (numsT (aggL c.f2)) i c.f2 hc.ag hok rfl his A k w hr hk hl ht.1 ht.2 hi
def awA : S46 := ⟨1, 0, ⟨1, 5, 5, 5, ⟨0, 1, 0, 0⟩, 0, 1⟩⟩
def awS : S28 := ⟨3, 0, 0, 1, [awA]⟩
theorem awA_R : cellR awA := by
  unfold awA
  constructor
  · show i64R 1; unfold i64R; omega
  · show i64R 0; unfold i64R; omega
  · constructor <;> (simp only; unfold i64R; omega)
theorem awS_R : stateR awS := by
  unfold awS
  constructor
  · show i64R 3; unfold i64R; omega
  · show i64R 0; unfold i64R; omega
  · show i64R 0; unfold i64R; omega
  · show i64R 1; unfold i64R; omega
  · intro c hc
    obtain rfl : c = awA := by simpa using hc
    exact awA_R
theorem s0_R : stateR s0 := by
  unfold s0
  constructor
  · show i64R (-1); unfold i64R; omega
  · show i64R 0; unfold i64R; omega
  · show i64R 0; unfold i64R; omega
  · show i64R 0; unfold i64R; omega
  · intro c hc
    cases hc
theorem awA_ok : aggOk awA.f2 = true := by decide +kernel
theorem aw_diff : diffP s0 awS = [headR awS, tellH awA] := by
  unfold diffP headP
  rw [if_neg (by decide +kernel)]
  show [headR awS] ++ walkP [] [awA] = _
  rw [walk_nc, walk_nn]
  rfl
theorem aw_same : diffP awS awS = [] := by
  unfold diffP headP
  rw [if_pos (by decide +kernel)]
  show [] ++ walkP [awA] [awA] = _
  rw [walk_e (by decide +kernel) (by decide +kernel) (by decide +kernel), walk_nn]
  rfl
theorem aw_steps : Steps s0 [headR awS, tellH awA] awS := by
  refine ⟨⟨3, 0, 0, 1, []⟩, step_head s0 awS awS_R (Nat.zero_le _), awS, ?_, rfl⟩
  exact step_new ⟨3, 0, 0, 1, []⟩ awA awA_R awA_ok (Nat.zero_le _) 0 ⟨Nat.le_refl _, fun m h => absurd h (Nat.not_lt_zero m), fun h => absurd h (Nat.lt_irrefl 0)⟩ rfl
theorem aw_check : checkP ⟨10, 10, 0⟩ awS = true := by decide +kernel
theorem aw_t0 : (headR awS).f2 = ⟨#[0, 6, 0, 0, 2]⟩ := by decide +kernel
theorem aw_t1 : (tellH awA).f2.size = 11 := by decide +kernel
set_option maxHeartbeats 16000000 in
set_option maxRecDepth 100000 in
theorem awake17_calls (w : World) : Calls Try.prog 31 #[] w fun e w' => e = .returned (.bool true) ∧ Below w.heap.size w w' := by
  have hd1 : ∀ (A : Option Addr) (w : World), Kd.C k46 w A 1 [awA] → Calls Try.prog 33 #[.agg #[.int .i64 (-1), .int .i64 0, .int .i64 0, .int .i64 0, .slice none 0 0], .agg #[.int .i64 3, .int .i64 0, .int .i64 0, .int .i64 1, .slice A 1 1]] w fun e w' => ∃ v, e = .returned v ∧ Kd.R k50 50 w' w.heap.size (fun _ => True) v [headR awS, tellH awA] ∧ Below w.heap.size w w' := by
    intro A w h
    have h1 := diff_calls s0 awS s0_R awS_R none A 0 1 w ⟨rfl, Nat.zero_le _, fun q => absurd q (Nat.lt_irrefl 0)⟩ (Nat.le_refl _) h (Nat.le_refl _) (Nat.zero_le _) (show 1 ≤ 400 by omega)
    rw [aw_diff] at h1
    exact h1
  have hd2 : ∀ (A : Option Addr) (w : World), Kd.C k46 w A 1 [awA] → Calls Try.prog 33 #[.agg #[.int .i64 3, .int .i64 0, .int .i64 0, .int .i64 1, .slice A 1 1], .agg #[.int .i64 3, .int .i64 0, .int .i64 0, .int .i64 1, .slice A 1 1]] w fun e w' => ∃ v, e = .returned v ∧ Kd.R k50 50 w' w.heap.size (fun _ => True) v [] ∧ Below w.heap.size w w' := by
    intro A w h
    have h1 := diff_calls awS awS awS_R awS_R A A 1 1 w h (Nat.le_refl _) h (Nat.le_refl _) (show 1 ≤ 400 by omega) (show 1 ≤ 400 by omega)
    rw [aw_same] at h1
    exact h1
  have hre : ∀ (A : Option Addr) (c : Nat) (w : World), Kd.C k50 w A 2 [headR awS, tellH awA] → 2 ≤ c → Calls Try.prog 37 #[.agg #[.int .i64 10, .int .i64 10, .int .i64 0], .slice A 2 c] w fun e w' => ∃ (A' : Option Addr) (c' : Nat), e = .returned (.tuple #[.agg #[.int .i64 3, .int .i64 0, .int .i64 0, .int .i64 1, .slice A' 1 c'], .int .i64 0]) ∧ Kd.R k46 46 w' w.heap.size (fun _ => True) (.slice A' 1 c') [awA] ∧ Below w.heap.size w w' := by
    intro A c w h hc
    exact restore_calls ⟨10, 10, 0⟩ [headR awS, tellH awA] awS aw_steps aw_check (show 1 ≤ 1000 by omega) A c w h hc (show 2 ≤ 1000000 by omega)
  have hsm : ∀ (A0 A1 : Option Addr) (c0 c1 : Nat) (w : World), Kd.C k46 w A0 1 [awA] → 1 ≤ c0 → Kd.C k46 w A1 1 [awA] → 1 ≤ c1 → Calls Try.prog 18 #[.agg #[.int .i64 3, .int .i64 0, .int .i64 0, .int .i64 1, .slice A0 1 c0], .agg #[.int .i64 3, .int .i64 0, .int .i64 0, .int .i64 1, .slice A1 1 c1]] w fun e w' => e = .returned (.bool true) ∧ Below w.heap.size w w' := by
    intro A0 A1 c0 c1 w h0 k0 h1 k1
    exact headgateref16_Same.calls _ 3 0 0 1 A0 c0 [awA] 3 0 0 1 A1 c1 [awA] true w h0 k0 h1 k1 (same_state awS (show 1 ≤ 1000000 by omega))
  have HD1 := Lib.hid hd1
  have HD2 := Lib.hid hd2
  have HRE := Lib.hid hre
  have HSM := Lib.hid hsm
  obtain ⟨rh, hrh⟩ : ∃ r, headR awS = r := ⟨_, rfl⟩
  obtain ⟨rt, hrt⟩ : ∃ r, tellH awA = r := ⟨_, rfl⟩
  have e0 : rh.f2 = ⟨#[0, 6, 0, 0, 2]⟩ := by rw [← hrh]; exact aw_t0
  have e1 : rt.f0 = 1 := by rw [← hrt]; rfl
  have e2 : rt.f2.size = 11 := by rw [← hrt]; exact aw_t1
  rw [hrh, hrt] at HD1 HRE
  obtain ⟨W1, hW1⟩ : ∃ W, W = (w.alloc (.cells #[.int .i64 1, .int .i64 0, .int .i64 1, .int .i64 5, .int .i64 5, .int .i64 5, .int .i64 0, .int .i64 1, .int .i64 0, .int .i64 0, .int .i64 0, .int .i64 1] 46)).alloc (.cells #[.int .i64 3, .int .i64 0, .int .i64 0, .int .i64 1, .slice (some ⟨w.heap.size, 0, none⟩) 1 1] 28) := ⟨_, rfl⟩
  have ha : W1.heap[w.heap.size]? = some (.cells #[.int .i64 1, .int .i64 0, .int .i64 1, .int .i64 5, .int .i64 5, .int .i64 5, .int .i64 0, .int .i64 1, .int .i64 0, .int .i64 0, .int .i64 0, .int .i64 1] 46 (0, 0)) := by
    rw [hW1, Below.heap_alloc _ _ _ (by simp)]
    exact heap_alloc_new _ _
  have hs : W1.heap[w.heap.size + 1]? = some (.cells #[.int .i64 3, .int .i64 0, .int .i64 0, .int .i64 1, .slice (some ⟨w.heap.size, 0, none⟩) 1 1] 28 (0, 0)) := by
    rw [hW1]
    have := heap_alloc_new (w.alloc (.cells #[.int .i64 1, .int .i64 0, .int .i64 1, .int .i64 5, .int .i64 5, .int .i64 5, .int .i64 0, .int .i64 1, .int .i64 0, .int .i64 0, .int .i64 0, .int .i64 1] 46)) (.cells #[.int .i64 3, .int .i64 0, .int .i64 0, .int .i64 1, .slice (some ⟨w.heap.size, 0, none⟩) 1 1] 28)
    simpa using this
  have hbw : Below w.heap.size w W1 := by rw [hW1]; exact below_alloc (below_alloc (Below.refl _ _) _) _
  have hca : Kd.C k46 W1 (some ⟨w.heap.size, 0, none⟩) 1 [awA] := one_C ha
  have HB := Lib.hid hbw
  have HS := Lib.hid hs
  have HCA := Lib.hid hca
  have HW1 := Lib.hid hW1
  have z0 : W1.cell? ⟨w.heap.size + 1, 0, none⟩ = some (.int .i64 3) := (blk_cell hs 0).trans rfl
  have z1 : W1.cell? ⟨w.heap.size + 1, 1, none⟩ = some (.int .i64 0) := (blk_cell hs 1).trans rfl
  have z2 : W1.cell? ⟨w.heap.size + 1, 2, none⟩ = some (.int .i64 0) := (blk_cell hs 2).trans rfl
  have z3 : W1.cell? ⟨w.heap.size + 1, 3, none⟩ = some (.int .i64 1) := (blk_cell hs 3).trans rfl
  have z4 : W1.cell? ⟨w.heap.size + 1, 4, none⟩ = some (.slice (some ⟨w.heap.size, 0, none⟩) 1 1) := (blk_cell hs 4).trans rfl
  clear hW1 ha hs hbw hca hd1 hd2 hre hsm hrh hrt
  go_enter Try.func31, Try.ntmps31
  go_upto_region 2 with fail
  rw [← HW1.out]
  go_upto_region 3 with (first | (go_at_call 33; go_loud ((with_reducible refine (HD1.out _ _ HCA.out).mono ?_); rintro e w3 ⟨v3, rfl, hR3, hb3⟩; obtain ⟨A3, c3, rfl, hc3, hC3⟩ := Kd.R_reads hR3; have HC3 := Lib.hid hC3; have HB3 := Lib.hid hb3; clear hR3 hb3 hC3)))
  go_upto_region 4 with (first | (go_at_call 37; go_loud ((with_reducible refine (HRE.out _ _ _ HC3.out hc3).mono ?_); rintro e w4 ⟨A9, c9, rfl, hR9, hb4⟩; have HR9 := Lib.hid hR9; have HB4 := Lib.hid hb4; clear hR9 hb4)))
  obtain ⟨WD, hWD⟩ : ∃ W, W = w4.alloc (.cells #[.int .i64 3, .int .i64 0, .int .i64 0, .int .i64 1, .slice A9 1 c9] 28) := ⟨_, rfl⟩
  have hbd : Below w4.heap.size w4 WD := by rw [hWD]; exact (Below.refl _ _).alloc (Nat.le_refl _) _
  have hbd3 : Below w3.heap.size w3 WD := HB4.out.trans (hbd.mono HB4.out.size)
  have hbd1 : Below W1.heap.size W1 WD := HB3.out.trans (hbd3.mono HB3.out.size)
  have htd : WD.heap[w4.heap.size]? = some (.cells #[.int .i64 3, .int .i64 0, .int .i64 0, .int .i64 1, .slice A9 1 c9] 28 (0, 0)) := by rw [hWD]; exact heap_alloc_new _ _
  have hsd := blk_below HS.out hbd1
  have hc3d := Kd.C_below HC3.out hbd3
  have HCD := Lib.hid (Kd.C_below HCA.out hbd1)
  have HRD := Lib.hid (Kd.R_below HR9.out hbd)
  have hc9 : 1 ≤ c9 := (Kd.R_reads' HR9.out).2.1
  rw [← hWD]
  clear z0 z1 z2 z3 z4
  have z0 : WD.cell? ⟨w.heap.size + 1, 0, none⟩ = some (.int .i64 3) := (blk_cell hsd 0).trans rfl
  have z1 : WD.cell? ⟨w.heap.size + 1, 1, none⟩ = some (.int .i64 0) := (blk_cell hsd 1).trans rfl
  have z2 : WD.cell? ⟨w.heap.size + 1, 2, none⟩ = some (.int .i64 0) := (blk_cell hsd 2).trans rfl
  have z3 : WD.cell? ⟨w.heap.size + 1, 3, none⟩ = some (.int .i64 1) := (blk_cell hsd 3).trans rfl
  have z4 : WD.cell? ⟨w.heap.size + 1, 4, none⟩ = some (.slice (some ⟨w.heap.size, 0, none⟩) 1 1) := (blk_cell hsd 4).trans rfl
  obtain ⟨adl, had, x0, x1, x2⟩ := at_T50 hc3d 0 (by omega) (show (0 : Int) < ((2 : Nat) : Int) by decide)
  obtain ⟨adl', had', y0, y1, y2⟩ := at_T50 hc3d 1 (by omega) (show (1 : Int) < ((2 : Nat) : Int) by decide)
  rw [had] at had'
  injection had' with had'
  subst had'
  subst had
  rw [show rd_T50 [rh, rt] 0 = rh from rfl] at x0 x1 x2
  rw [show rd_T50 [rh, rt] 1 = rt from rfl] at y0 y1 y2
  rw [e0] at x2
  rw [e1] at y0
  simp only [Int.toNat_zero, Nat.zero_mul, Addr.add_zero'] at x2
  rw [show adl.add (Int.toNat 1 * 3) = ⟨adl.block, adl.off + 3, none⟩ from rfl] at y0 y2
  obtain ⟨T1, hT1⟩ : ∃ T, rt.f2 = T := ⟨_, rfl⟩
  rw [hT1] at y2 e2
  have HTD := Lib.hid htd
  have HSD := Lib.hid hsd
  have HBD := Lib.hid (HB.out.trans (hbd1.mono HB.out.size))
  clear hWD hbd hbd3 hbd1 htd hsd hc3d hT1 x0 x1 y1 e0 e1
  go_wp2_with (first | (go_at_call 33; go_loud ((with_reducible refine (HD2.out _ _ HCD.out).mono ?_); rintro e w7 ⟨v7, rfl, hR7, hb7⟩; obtain ⟨A7, c7, rfl, hc7, _⟩ := Kd.R_reads hR7; have hs7 := blk_below HSD.out hb7; have ht7 := blk_below HTD.out hb7; have s0 : w7.cell? ⟨w.heap.size + 1, 0, none⟩ = some (.int .i64 3) := (blk_cell hs7 0).trans rfl; have s1 : w7.cell? ⟨w.heap.size + 1, 1, none⟩ = some (.int .i64 0) := (blk_cell hs7 1).trans rfl; have s2 : w7.cell? ⟨w.heap.size + 1, 2, none⟩ = some (.int .i64 0) := (blk_cell hs7 2).trans rfl; have s3 : w7.cell? ⟨w.heap.size + 1, 3, none⟩ = some (.int .i64 1) := (blk_cell hs7 3).trans rfl; have s4 : w7.cell? ⟨w.heap.size + 1, 4, none⟩ = some (.slice (some ⟨w.heap.size, 0, none⟩) 1 1) := (blk_cell hs7 4).trans rfl; have t0 : w7.cell? ⟨w4.heap.size, 0, none⟩ = some (.int .i64 3) := (blk_cell ht7 0).trans rfl; have t1 : w7.cell? ⟨w4.heap.size, 1, none⟩ = some (.int .i64 0) := (blk_cell ht7 1).trans rfl; have t2 : w7.cell? ⟨w4.heap.size, 2, none⟩ = some (.int .i64 0) := (blk_cell ht7 2).trans rfl; have t3 : w7.cell? ⟨w4.heap.size, 3, none⟩ = some (.int .i64 1) := (blk_cell ht7 3).trans rfl; have t4 : w7.cell? ⟨w4.heap.size, 4, none⟩ = some (.slice A9 1 c9) := (blk_cell ht7 4).trans rfl; have HC7 := Lib.hid (Kd.C_below HCD.out hb7); have HT7 := Lib.hid ((Kd.R_reads' (Kd.R_below HRD.out hb7)).2.2); have HB7 := Lib.hid (HBD.out.trans (hb7.mono HBD.out.size)); clear hs7 ht7 hb7 hR7)) | (go_at_call 18; go_loud ((with_reducible refine (HSM.out _ _ _ _ _ HC7.out (Nat.le_refl _) HT7.out hc9).mono ?_); rintro e w8 ⟨rfl, hb8⟩; have HB8 := Lib.hid (HB7.out.trans (hb8.mono HB7.out.size)); clear hb8)))
  go_ret
  exact ⟨rfl, HB8.out⟩
end Go.Proofs.Ytgipepjpkmlmaaa.P
