import Derived.Test.YtgipepjpkmlmaaaQD1
import Derived.Test.YtgipepjpkmlmaaaQD2
import Derived.Test.YtgipepjpkmlmaaaQD3
import Derived.Test.YtgipepjpkmlmaaaQD4
import Derived.Test.YtgipepjpkmlmaaaQD5
import Derived.Test.YtgipepjpkmlmaaaQD6
import Derived.Test.YtgipepjpkmlmaaaQD7
import Derived.Test.YtgipepjpkmlmaaaQD8
import Derived.Test.YtgipepjpkmlmaaaQD9
import Derived.Test.YtgipepjpkmlmaaaQD10
import Derived.Test.YtgipepjpkmlmaaaQD11
import Derived.Test.YtgipepjpkmlmaaaQD12
import Derived.Test.YtgipepjpkmlmaaaQD13
import Derived.Test.YtgipepjpkmlmaaaQD14
import Derived.Test.YtgipepjpkmlmaaaQD15
import Derived.Test.YtgipepjpkmlmaaaQD16
namespace Go.Proofs.Ytgipepjpkmlmaaa.P
open Go.RowKit Go.Proofs.YtgipepjpkmlmaaaW.PrintWords Go.Proofs.YtgipepjpkmlmaaaW.PrintLast Go.Proofs.YtgipepjpkmlmaaaW.PrintMore
set_option linter.unusedVariables false
set_option linter.unusedSimpArgs false
theorem step_head (s b : S28) (hb : stateR b) (hl : s.f4.length ≤ 1000) : Step s (headR b) ⟨b.f0, b.f1, b.f2, b.f3, s.f4⟩ := by
  intro A c w hr hc
  obtain ⟨i, hi⟩ := place_at s.f4 ⟨0, 0, z44⟩
  have hR := headL_R hb
  have h0 : tkL (headR b).f2 11 0 0 = (0, numsT [b.f0, b.f1, b.f2, b.f3], 0) := take_nums 0 [b.f0, b.f1, b.f2, b.f3] (by omega) (by omega)
  have hv : ∀ v ∈ [b.f0, b.f1, b.f2, b.f3], -9223372036854775808 ≤ v ∧ v ≤ 9223372036854775807 := fun v h => hR v (List.mem_cons_of_mem _ h)
  exact apply0_calls s (headR b) (numsT [b.f0, b.f1, b.f2, b.f3]) i b.f0 b.f1 b.f2 b.f3 (takeAll_nums [b.f0, b.f1, b.f2, b.f3] hv) rfl rfl A c w hr hc hl h0 (Nat.le_trans (numsT_size _ hR) (by show 10 * 5 ≤ _; omega)) hi
theorem told_take (c : S46) (hc : cellR c) (hok : aggOk c.f2 = true) : tkL (tellH c).f2 11 0 0 = (1, numsT (aggL c.f2), 0) ∧ (tellH c).f2.size ≤ 1000000 := by
  constructor
  · show tkL (numT 1 ++ encT c.f2) 11 0 0 = _
    have e : encT c.f2 = numsT (aggL c.f2) := if_pos hok
    rw [e]
    exact take_num 1 (by omega) (by omega) _
  · show (numT 1 ++ encT c.f2).size ≤ _
    rw [ByteArray.size_append]
    have h1 := numT_size 1 (by omega) (by omega)
    have h2 := encT_size c.f2 hc.ag
    omega
theorem step_new (s : S28) (c : S46) (hc : cellR c) (hok : aggOk c.f2 = true) (hl : s.f4.length ≤ 1000) (i : Nat) (hi : placeOk s.f4 ⟨c.f0, c.f1, z44⟩ i) (his : isP s.f4 ⟨c.f0, c.f1, z44⟩ i = false) :
    Step s (tellH c) ⟨s.f0, s.f1, s.f2, s.f3, s.f4.take i ++ c :: s.f4.drop i⟩ := by
  intro A k w hr hk
  have ht := told_take c hc hok
  exact apply1_calls s (tellH c) (numsT (aggL c.f2)) i c.f2 hc.ag hok rfl his A k w hr hk hl ht.1 ht.2 hi
def awA : S46 := ⟨1, 0, ⟨1, 5, 5, 5, ⟨0, 1, 0, 0⟩, 0, 1⟩⟩
def awS : S28 := ⟨3, 0, 0, 1, [awA]⟩
theorem awA_R : cellR awA := by
  unfold awA
  constructor
  · show i64R 1; unfold i64R; omega
  · show i64R 0; unfold i64R; omega
  · constructor <;> (simp only; unfold i64R; omega)
theorem awS_R : stateR awS := by
  unfold awS
  constructor
  · show i64R 3; unfold i64R; omega
  · show i64R 0; unfold i64R; omega
  · show i64R 0; unfold i64R; omega
  · show i64R 1; unfold i64R; omega
  · intro c hc
    obtain rfl : c = awA := by simpa using hc
    exact awA_R
theorem s0_R : stateR s0 := by
  unfold s0
  constructor
  · show i64R (-1); unfold i64R; omega
  · show i64R 0; unfold i64R; omega
  · show i64R 0; unfold i64R; omega
  · show i64R 0; unfold i64R; omega
  · intro c hc
    cases hc
theorem awA_ok : aggOk awA.f2 = true := by decide +kernel
theorem aw_diff : diffP s0 awS = [headR awS, tellH awA] := by
  unfold diffP headP
  rw [if_neg (by decide +kernel)]
  show [headR awS] ++ walkP [] [awA] = _
  rw [walk_nc, walk_nn]
  rfl
theorem aw_same : diffP awS awS = [] := by
  unfold diffP headP
  rw [if_pos (by decide +kernel)]
  show [] ++ walkP [awA] [awA] = _
  rw [walk_e (by decide +kernel) (by decide +kernel) (by decide +kernel), walk_nn]
  rfl
theorem aw_steps : Steps s0 [headR awS, tellH awA] awS := by
  refine ⟨⟨3, 0, 0, 1, []⟩, step_head s0 awS awS_R (Nat.zero_le _), awS, ?_, rfl⟩
  exact step_new ⟨3, 0, 0, 1, []⟩ awA awA_R awA_ok (Nat.zero_le _) 0 ⟨Nat.le_refl _, fun m h => absurd h (Nat.not_lt_zero m), fun h => absurd h (Nat.lt_irrefl 0)⟩ rfl
theorem aw_check : checkP ⟨10, 10, 0⟩ awS = true := by decide +kernel
theorem aw_t0 : (headR awS).f2 = ⟨#[0, 6, 0, 0, 2]⟩ := by decide +kernel
theorem aw_t1 : (tellH awA).f2.size = 11 := by decide +kernel
set_option maxHeartbeats 16000000 in
set_option maxRecDepth 100000 in
theorem awake17_calls (w : World) : Calls Try.prog 31 #[] w fun e w' => e = .returned (.bool true) ∧ Below w.heap.size w w' := by
  have hd1 : ∀ (A : Option Addr) (w : World), Kd.C k46 w A 1 [awA] → Calls Try.prog 33 #[.agg #[.int .i64 (-1), .int .i64 0, .int .i64 0, .int .i64 0, .slice none 0 0], .agg #[.int .i64 3, .int .i64 0, .int .i64 0, .int .i64 1, .slice A 1 1]] w fun e w' => ∃ v, e = .returned v ∧ Kd.R k50 50 w' w.heap.size (fun _ => True) v [headR awS, tellH awA] ∧ Below w.heap.size w w' := by
    intro A w h
    have h1 := diff_calls s0 awS s0_R awS_R none A 0 1 w ⟨rfl, Nat.zero_le _, fun q => absurd q (Nat.lt_irrefl 0)⟩ (Nat.le_refl _) h (Nat.le_refl _) (Nat.zero_le _) (show 1 ≤ 400 by omega)
    rw [aw_diff] at h1
    exact h1
  have hd2 : ∀ (A : Option Addr) (w : World), Kd.C k46 w A 1 [awA] → Calls Try.prog 33 #[.agg #[.int .i64 3, .int .i64 0, .int .i64 0, .int .i64 1, .slice A 1 1], .agg #[.int .i64 3, .int .i64 0, .int .i64 0, .int .i64 1, .slice A 1 1]] w fun e w' => ∃ v, e = .returned v ∧ Kd.R k50 50 w' w.heap.size (fun _ => True) v [] ∧ Below w.heap.size w w' := by
    intro A w h
    have h1 := diff_calls awS awS awS_R awS_R A A 1 1 w h (Nat.le_refl _) h (Nat.le_refl _) (show 1 ≤ 400 by omega) (show 1 ≤ 400 by omega)
    rw [aw_same] at h1
    exact h1
  have hre : ∀ (A : Option Addr) (c : Nat) (w : World), Kd.C k50 w A 2 [headR awS, tellH awA] → 2 ≤ c → Calls Try.prog 37 #[.agg #[.int .i64 10, .int .i64 10, .int .i64 0], .slice A 2 c] w fun e w' => ∃ (A' : Option Addr) (c' : Nat), e = .returned (.tuple #[.agg #[.int .i64 3, .int .i64 0, .int .i64 0, .int .i64 1, .slice A' 1 c'], .int .i64 0]) ∧ Kd.R k46 46 w' w.heap.size (fun _ => True) (.slice A' 1 c') [awA] ∧ Below w.heap.size w w' := by
    intro A c w h hc
    exact restore_calls ⟨10, 10, 0⟩ [headR awS, tellH awA] awS aw_steps aw_check (show 1 ≤ 1000 by omega) A c w h hc (show 2 ≤ 1000000 by omega)
  have hsm : ∀ (A0 A1 : Option Addr) (c0 c1 : Nat) (w : World), Kd.C k46 w A0 1 [awA] → 1 ≤ c0 → Kd.C k46 w A1 1 [awA] → 1 ≤ c1 → Calls Try.prog 18 #[.agg #[.int .i64 3, .int .i64 0, .int .i64 0, .int .i64 1, .slice A0 1 c0], .agg #[.int .i64 3, .int .i64 0, .int .i64 0, .int .i64 1, .slice A1 1 c1]] w fun e w' => e = .returned (.bool true) ∧ Below w.heap.size w w' := by
    intro A0 A1 c0 c1 w h0 k0 h1 k1
    exact headgateref16_Same.calls _ 3 0 0 1 A0 c0 [awA] 3 0 0 1 A1 c1 [awA] true w h0 k0 h1 k1 (same_state awS (show 1 ≤ 1000000 by omega))
  have HD1 := Lib.hid hd1
  have HD2 := Lib.hid hd2
  have HRE := Lib.hid hre
  have HSM := Lib.hid hsm
  obtain ⟨rh, hrh⟩ : ∃ r, headR awS = r := ⟨_, rfl⟩
  obtain ⟨rt, hrt⟩ : ∃ r, tellH awA = r := ⟨_, rfl⟩
  have e0 : rh.f2 = ⟨#[0, 6, 0, 0, 2]⟩ := by rw [← hrh]; exact aw_t0
  have e1 : rt.f0 = 1 := by rw [← hrt]; rfl
  have e2 : rt.f2.size = 11 := by rw [← hrt]; exact aw_t1
  rw [hrh, hrt] at HD1 HRE
  obtain ⟨W1, hW1⟩ : ∃ W, W = (w.alloc (.cells #[.int .i64 1, .int .i64 0, .int .i64 1, .int .i64 5, .int .i64 5, .int .i64 5, .int .i64 0, .int .i64 1, .int .i64 0, .int .i64 0, .int .i64 0, .int .i64 1] 46)).alloc (.cells #[.int .i64 3, .int .i64 0, .int .i64 0, .int .i64 1, .slice (some ⟨w.heap.size, 0, none⟩) 1 1] 28) := ⟨_, rfl⟩
  have ha : W1.heap[w.heap.size]? = some (.cells #[.int .i64 1, .int .i64 0, .int .i64 1, .int .i64 5, .int .i64 5, .int .i64 5, .int .i64 0, .int .i64 1, .int .i64 0, .int .i64 0, .int .i64 0, .int .i64 1] 46 (0, 0)) := by
    rw [hW1, Below.heap_alloc _ _ _ (by simp)]
    exact heap_alloc_new _ _
  have hs : W1.heap[w.heap.size + 1]? = some (.cells #[.int .i64 3, .int .i64 0, .int .i64 0, .int .i64 1, .slice (some ⟨w.heap.size, 0, none⟩) 1 1] 28 (0, 0)) := by
    rw [hW1]
    have := heap_alloc_new (w.alloc (.cells #[.int .i64 1, .int .i64 0, .int .i64 1, .int .i64 5, .int .i64 5, .int .i64 5, .int .i64 0, .int .i64 1, .int .i64 0, .int .i64 0, .int .i64 0, .int .i64 1] 46)) (.cells #[.int .i64 3, .int .i64 0, .int .i64 0, .int .i64 1, .slice (some ⟨w.heap.size, 0, none⟩) 1 1] 28)
    simpa using this
  have hbw : Below w.heap.size w W1 := by rw [hW1]; exact below_alloc (below_alloc (Below.refl _ _) _) _
  have hca : Kd.C k46 W1 (some ⟨w.heap.size, 0, none⟩) 1 [awA] := one_C ha
  have HB := Lib.hid hbw
  have HS := Lib.hid hs
  have HCA := Lib.hid hca
  have HW1 := Lib.hid hW1
  have z0 : W1.cell? ⟨w.heap.size + 1, 0, none⟩ = some (.int .i64 3) := (blk_cell hs 0).trans rfl
  have z1 : W1.cell? ⟨w.heap.size + 1, 1, none⟩ = some (.int .i64 0) := (blk_cell hs 1).trans rfl
  have z2 : W1.cell? ⟨w.heap.size + 1, 2, none⟩ = some (.int .i64 0) := (blk_cell hs 2).trans rfl
  have z3 : W1.cell? ⟨w.heap.size + 1, 3, none⟩ = some (.int .i64 1) := (blk_cell hs 3).trans rfl
  have z4 : W1.cell? ⟨w.heap.size + 1, 4, none⟩ = some (.slice (some ⟨w.heap.size, 0, none⟩) 1 1) := (blk_cell hs 4).trans rfl
  clear hW1 ha hs hbw hca hd1 hd2 hre hsm hrh hrt
  go_enter Try.func31, Try.ntmps31
  go_upto_region 2 with fail
  rw [← HW1.out]
  go_upto_region 3 with (first | (go_at_call 33; go_loud ((with_reducible refine (HD1.out _ _ HCA.out).mono ?_); rintro e w3 ⟨v3, rfl, hR3, hb3⟩; obtain ⟨A3, c3, rfl, hc3, hC3⟩ := Kd.R_reads hR3; have HC3 := Lib.hid hC3; have HB3 := Lib.hid hb3; clear hR3 hb3 hC3)))
  go_upto_region 4 with (first | (go_at_call 37; go_loud ((with_reducible refine (HRE.out _ _ _ HC3.out hc3).mono ?_); rintro e w4 ⟨A9, c9, rfl, hR9, hb4⟩; have HR9 := Lib.hid hR9; have HB4 := Lib.hid hb4; clear hR9 hb4)))
  obtain ⟨WD, hWD⟩ : ∃ W, W = w4.alloc (.cells #[.int .i64 3, .int .i64 0, .int .i64 0, .int .i64 1, .slice A9 1 c9] 28) := ⟨_, rfl⟩
  have hbd : Below w4.heap.size w4 WD := by rw [hWD]; exact (Below.refl _ _).alloc (Nat.le_refl _) _
  have hbd3 : Below w3.heap.size w3 WD := HB4.out.trans (hbd.mono HB4.out.size)
  have hbd1 : Below W1.heap.size W1 WD := HB3.out.trans (hbd3.mono HB3.out.size)
  have htd : WD.heap[w4.heap.size]? = some (.cells #[.int .i64 3, .int .i64 0, .int .i64 0, .int .i64 1, .slice A9 1 c9] 28 (0, 0)) := by rw [hWD]; exact heap_alloc_new _ _
  have hsd := blk_below HS.out hbd1
  have hc3d := Kd.C_below HC3.out hbd3
  have HCD := Lib.hid (Kd.C_below HCA.out hbd1)
  have HRD := Lib.hid (Kd.R_below HR9.out hbd)
  have hc9 : 1 ≤ c9 := (Kd.R_reads' HR9.out).2.1
  rw [← hWD]
  clear z0 z1 z2 z3 z4
  have z0 : WD.cell? ⟨w.heap.size + 1, 0, none⟩ = some (.int .i64 3) := (blk_cell hsd 0).trans rfl
  have z1 : WD.cell? ⟨w.heap.size + 1, 1, none⟩ = some (.int .i64 0) := (blk_cell hsd 1).trans rfl
  have z2 : WD.cell? ⟨w.heap.size + 1, 2, none⟩ = some (.int .i64 0) := (blk_cell hsd 2).trans rfl
  have z3 : WD.cell? ⟨w.heap.size + 1, 3, none⟩ = some (.int .i64 1) := (blk_cell hsd 3).trans rfl
  have z4 : WD.cell? ⟨w.heap.size + 1, 4, none⟩ = some (.slice (some ⟨w.heap.size, 0, none⟩) 1 1) := (blk_cell hsd 4).trans rfl
  obtain ⟨adl, had, x0, x1, x2⟩ := at_T50 hc3d 0 (by omega) (show (0 : Int) < ((2 : Nat) : Int) by decide)
  obtain ⟨adl', had', y0, y1, y2⟩ := at_T50 hc3d 1 (by omega) (show (1 : Int) < ((2 : Nat) : Int) by decide)
  rw [had] at had'
  injection had' with had'
  subst had'
  subst had
  rw [show rd_T50 [rh, rt] 0 = rh from rfl] at x0 x1 x2
  rw [show rd_T50 [rh, rt] 1 = rt from rfl] at y0 y1 y2
  rw [e0] at x2
  rw [e1] at y0
  simp only [Int.toNat_zero, Nat.zero_mul, Addr.add_zero'] at x2
  rw [show adl.add (Int.toNat 1 * 3) = ⟨adl.block, adl.off + 3, none⟩ from rfl] at y0 y2
  obtain ⟨T1, hT1⟩ : ∃ T, rt.f2 = T := ⟨_, rfl⟩
  rw [hT1] at y2 e2
  have HTD := Lib.hid htd
  have HSD := Lib.hid hsd
  have HBD := Lib.hid (HB.out.trans (hbd1.mono HB.out.size))
  clear hWD hbd hbd3 hbd1 htd hsd hc3d hT1 x0 x1 y1 e0 e1
  go_wp2_with (first | (go_at_call 33; go_loud ((with_reducible refine (HD2.out _ _ HCD.out).mono ?_); rintro e w7 ⟨v7, rfl, hR7, hb7⟩; obtain ⟨A7, c7, rfl, hc7, _⟩ := Kd.R_reads hR7; have hs7 := blk_below HSD.out hb7; have ht7 := blk_below HTD.out hb7; have s0 : w7.cell? ⟨w.heap.size + 1, 0, none⟩ = some (.int .i64 3) := (blk_cell hs7 0).trans rfl; have s1 : w7.cell? ⟨w.heap.size + 1, 1, none⟩ = some (.int .i64 0) := (blk_cell hs7 1).trans rfl; have s2 : w7.cell? ⟨w.heap.size + 1, 2, none⟩ = some (.int .i64 0) := (blk_cell hs7 2).trans rfl; have s3 : w7.cell? ⟨w.heap.size + 1, 3, none⟩ = some (.int .i64 1) := (blk_cell hs7 3).trans rfl; have s4 : w7.cell? ⟨w.heap.size + 1, 4, none⟩ = some (.slice (some ⟨w.heap.size, 0, none⟩) 1 1) := (blk_cell hs7 4).trans rfl; have t0 : w7.cell? ⟨w4.heap.size, 0, none⟩ = some (.int .i64 3) := (blk_cell ht7 0).trans rfl; have t1 : w7.cell? ⟨w4.heap.size, 1, none⟩ = some (.int .i64 0) := (blk_cell ht7 1).trans rfl; have t2 : w7.cell? ⟨w4.heap.size, 2, none⟩ = some (.int .i64 0) := (blk_cell ht7 2).trans rfl; have t3 : w7.cell? ⟨w4.heap.size, 3, none⟩ = some (.int .i64 1) := (blk_cell ht7 3).trans rfl; have t4 : w7.cell? ⟨w4.heap.size, 4, none⟩ = some (.slice A9 1 c9) := (blk_cell ht7 4).trans rfl; have HC7 := Lib.hid (Kd.C_below HCD.out hb7); have HT7 := Lib.hid ((Kd.R_reads' (Kd.R_below HRD.out hb7)).2.2); have HB7 := Lib.hid (HBD.out.trans (hb7.mono HBD.out.size)); clear hs7 ht7 hb7 hR7)) | (go_at_call 18; go_loud ((with_reducible refine (HSM.out _ _ _ _ _ HC7.out (Nat.le_refl _) HT7.out hc9).mono ?_); rintro e w8 ⟨rfl, hb8⟩; have HB8 := Lib.hid (HB7.out.trans (hb8.mono HB7.out.size)); clear hb8)))
  go_ret
  exact ⟨rfl, HB8.out⟩
end Go.Proofs.Ytgipepjpkmlmaaa.P
namespace Go.Proofs.Ytgipepjpkmlmaaa.P
open Go.RowKit Go.Proofs.YtgipepjpkmlmaaaW.PrintWords Go.Proofs.YtgipepjpkmlmaaaW.PrintLast Go.Proofs.YtgipepjpkmlmaaaW.PrintMore
set_option linter.unusedVariables false
set_option linter.unusedSimpArgs false
theorem sameR_l0 (l : List S50) (hl : l.length ≤ 1000000) : ∀ (n i : Nat), i + n = l.length → headgateref06_SameRecords.l0 (n + 1) l l (i : Int) = some true := by
  intro n
  induction n with
  | zero =>
    intro i h
    rw [headgateref06_SameRecords.l0, if_neg (by omega)]
  | succ n ih =>
    intro i h
    rw [headgateref06_SameRecords.l0, if_pos (by omega), if_pos (by omega), if_pos (by omega), if_neg (by simp)]
    rw [show wrap64 ((i : Int) + 1) = ((i + 1 : Nat) : Int) by unfold wrap64; omega]
    exact ih (i + 1) (by omega)
theorem sameR_f (l : List S50) (hl : l.length ≤ 1000000) : headgateref06_SameRecords.f (l.length + 1) l l = some true := by
  unfold headgateref06_SameRecords.f
  rw [if_pos rfl]
  exact sameR_l0 l hl _ 0 (by omega)
set_option maxHeartbeats 16000000 in
set_option maxRecDepth 100000 in
/-- ChangeDiffs answers true. -/
theorem changeDiffs_walk (a : S28) (Aa : Option Addr) (ca : Nat) (b : S28) (Ab : Option Addr) (cb : Nat) (w : World) (hca : a.f4.length ≤ ca) (hra : Kd.C k46 w Aa a.f4.length a.f4) (ha : stateR a) (hcb : b.f4.length ≤ cb) (hrb : Kd.C k46 w Ab b.f4.length b.f4) (hb : stateR b) :
    Calls Try.prog 9 #[.agg #[.int .i64 a.f0, .int .i64 a.f1, .int .i64 a.f2, .int .i64 a.f3, .slice Aa a.f4.length ca], .agg #[.int .i64 b.f0, .int .i64 b.f1, .int .i64 b.f2, .int .i64 b.f3, .slice Ab b.f4.length cb]] w fun e w' => e = .returned (.bool true) ∧ Below w.heap.size w w' := by
  have hla := fun (w : World) (h : Kd.C k46 w Aa a.f4.length a.f4) => headgatelaw17_light.calls a.f0 a.f1 a.f2 a.f3 Aa ca a.f4 _ w h hca rfl
  have hlb := fun (w : World) (h : Kd.C k46 w Ab b.f4.length b.f4) => headgatelaw17_light.calls b.f0 b.f1 b.f2 b.f3 Ab cb b.f4 _ w h hcb rfl
  have hd := fun (w : World) (h1 : Kd.C k46 w Aa a.f4.length a.f4) (h2 : Kd.C k46 w Ab b.f4.length b.f4) (k1 : a.f4.length ≤ 400) (k2 : b.f4.length ≤ 400) => diff_calls a b ha hb Aa Ab ca cb w h1 hca h2 hcb k1 k2
  have hdr := fun (w : World) (h1 : Kd.C k46 w Aa a.f4.length a.f4) (h2 : Kd.C k46 w Ab b.f4.length b.f4) (k1 : a.f4.length ≤ 400) (k2 : b.f4.length ≤ 400) => diffR_calls a b ha hb Aa Ab ca cb w h1 hca h2 hcb k1 k2
  have hdl := diff_len a b
  obtain ⟨D, hD⟩ : ∃ D, diffP a b = D := ⟨_, rfl⟩
  rw [hD] at hd hdr hdl
  clear hD
  obtain ⟨na, hna⟩ : ∃ na, a.f4.length = na := ⟨_, rfl⟩
  obtain ⟨nb, hnb⟩ : ∃ nb, b.f4.length = nb := ⟨_, rfl⟩
  rw [hna] at hra hca hla hd hdr hdl ⊢
  rw [hnb] at hrb hcb hlb hd hdr hdl ⊢
  clear hna hnb ha hb
  have HLA := Lib.hid hla
  have HLB := Lib.hid hlb
  have HD := Lib.hid hd
  have HDR := Lib.hid hdr
  have HDL := Lib.hid hdl
  obtain ⟨W2, hW2⟩ : ∃ W, W = (w.alloc (.cells #[.int .i64 a.f0, .int .i64 a.f1, .int .i64 a.f2, .int .i64 a.f3, .slice Aa na ca] 28)).alloc (.cells #[.int .i64 b.f0, .int .i64 b.f1, .int .i64 b.f2, .int .i64 b.f3, .slice Ab nb cb] 28) := ⟨_, rfl⟩
  have h0 : W2.heap[w.heap.size]? = some (.cells #[.int .i64 a.f0, .int .i64 a.f1, .int .i64 a.f2, .int .i64 a.f3, .slice Aa na ca] 28 (0, 0)) := by
    rw [hW2, Below.heap_alloc _ _ _ (by simp)]
    exact heap_alloc_new _ _
  have h1 : W2.heap[w.heap.size + 1]? = some (.cells #[.int .i64 b.f0, .int .i64 b.f1, .int .i64 b.f2, .int .i64 b.f3, .slice Ab nb cb] 28 (0, 0)) := by
    rw [hW2]
    have := heap_alloc_new (w.alloc (.cells #[.int .i64 a.f0, .int .i64 a.f1, .int .i64 a.f2, .int .i64 a.f3, .slice Aa na ca] 28)) (.cells #[.int .i64 b.f0, .int .i64 b.f1, .int .i64 b.f2, .int .i64 b.f3, .slice Ab nb cb] 28)
    simpa using this
  have hbw : Below w.heap.size w W2 := by rw [hW2]; exact below_alloc (below_alloc (Below.refl _ _) _) _
  have HB := Lib.hid hbw
  have HW2 := Lib.hid hW2
  have H0 := Lib.hid h0
  have H1 := Lib.hid h1
  have HRA := Lib.hid (Kd.C_below hra hbw)
  have HRB := Lib.hid (Kd.C_below hrb hbw)
  have z0 : W2.cell? ⟨w.heap.size, 0, none⟩ = some (.int .i64 a.f0) := (blk_cell h0 0).trans rfl
  have z1 : W2.cell? ⟨w.heap.size, 1, none⟩ = some (.int .i64 a.f1) := (blk_cell h0 1).trans rfl
  have z2 : W2.cell? ⟨w.heap.size, 2, none⟩ = some (.int .i64 a.f2) := (blk_cell h0 2).trans rfl
  have z3 : W2.cell? ⟨w.heap.size, 3, none⟩ = some (.int .i64 a.f3) := (blk_cell h0 3).trans rfl
  have z4 : W2.cell? ⟨w.heap.size, 4, none⟩ = some (.slice Aa na ca) := (blk_cell h0 4).trans rfl
  have y0 : W2.cell? ⟨w.heap.size + 1, 0, none⟩ = some (.int .i64 b.f0) := (blk_cell h1 0).trans rfl
  have y1 : W2.cell? ⟨w.heap.size + 1, 1, none⟩ = some (.int .i64 b.f1) := (blk_cell h1 1).trans rfl
  have y2 : W2.cell? ⟨w.heap.size + 1, 2, none⟩ = some (.int .i64 b.f2) := (blk_cell h1 2).trans rfl
  have y3 : W2.cell? ⟨w.heap.size + 1, 3, none⟩ = some (.int .i64 b.f3) := (blk_cell h1 3).trans rfl
  have y4 : W2.cell? ⟨w.heap.size + 1, 4, none⟩ = some (.slice Ab nb cb) := (blk_cell h1 4).trans rfl
  have HAW := Lib.hid awake17_calls
  clear hW2 h0 h1 hbw hra hrb hla hlb hd hdr hdl
  go_enter Try.func9, Try.ntmps9
  go_upto_region 1 with fail
  rw [← HW2.out]
  by_cases k1 : na ≤ 80
  rotate_left
  · have hla := HLA.out
    have d1 : decide ((na : Int) ≤ 80) = false := decide_eq_false (by omega)
    rw [d1] at hla
    have HLA' := Lib.hid hla
    clear hla d1 HLA
    go_wp2_with (first | (go_at_call 30; go_loud ((with_reducible refine (HLA'.out _ HRA.out).mono ?_); rintro e w3 ⟨rfl, hb3⟩; have HB3 := Lib.hid hb3; clear hb3)) | (go_at_call 31; go_loud ((with_reducible refine (HAW.out _).mono ?_); rintro e w4 ⟨rfl, hb4⟩; have HB4 := Lib.hid hb4; clear hb4)))
    go_ret
    exact ⟨rfl, HB.out.trans ((HB3.out.trans (HB4.out.mono HB3.out.size)).mono HB.out.size)⟩
  have hla := HLA.out
  have d1 : decide ((na : Int) ≤ 80) = true := decide_eq_true (by omega)
  rw [d1] at hla
  have HLA' := Lib.hid hla
  clear hla d1 HLA
  by_cases k2 : nb ≤ 80
  rotate_left
  · have hlb := HLB.out
    have d1 : decide ((nb : Int) ≤ 80) = false := decide_eq_false (by omega)
    rw [d1] at hlb
    have HLB' := Lib.hid hlb
    clear hlb d1 HLB
    go_wp2_with (first | (go_at_call 30; go_loud ((with_reducible refine (HLA'.out _ HRA.out).mono ?_); rintro e w3 ⟨rfl, hb3⟩; have HB3 := Lib.hid hb3; have q1 := blk_below H1.out hb3; have y0 : w3.cell? ⟨w.heap.size + 1, 0, none⟩ = some (.int .i64 b.f0) := (blk_cell q1 0).trans rfl; have y1 : w3.cell? ⟨w.heap.size + 1, 1, none⟩ = some (.int .i64 b.f1) := (blk_cell q1 1).trans rfl; have y2 : w3.cell? ⟨w.heap.size + 1, 2, none⟩ = some (.int .i64 b.f2) := (blk_cell q1 2).trans rfl; have y3 : w3.cell? ⟨w.heap.size + 1, 3, none⟩ = some (.int .i64 b.f3) := (blk_cell q1 3).trans rfl; have y4 : w3.cell? ⟨w.heap.size + 1, 4, none⟩ = some (.slice Ab nb cb) := (blk_cell q1 4).trans rfl; have HRB3 := Lib.hid (Kd.C_below HRB.out hb3); clear hb3 q1)) | (go_at_call 30; go_loud ((with_reducible refine (HLB'.out _ HRB3.out).mono ?_); rintro e w5 ⟨rfl, hb5⟩; have HB5 := Lib.hid hb5; clear hb5)) | (go_at_call 31; go_loud ((with_reducible refine (HAW.out _).mono ?_); rintro e w4 ⟨rfl, hb4⟩; have HB4 := Lib.hid hb4; clear hb4)))
    go_ret
    exact ⟨rfl, HB.out.trans ((HB3.out.trans ((HB5.out.trans (HB4.out.mono HB5.out.size)).mono HB3.out.size)).mono HB.out.size)⟩
  have hlb := HLB.out
  have d1 : decide ((nb : Int) ≤ 80) = true := decide_eq_true (by omega)
  rw [d1] at hlb
  have HLB' := Lib.hid hlb
  clear hlb d1 HLB
  go_upto_region 3 with (first | (go_at_call 30; go_loud ((with_reducible refine (HLA'.out _ HRA.out).mono ?_); rintro e w3 ⟨rfl, hb3⟩; have HB3 := Lib.hid hb3; have q1 := blk_below H1.out hb3; have y0 : w3.cell? ⟨w.heap.size + 1, 0, none⟩ = some (.int .i64 b.f0) := (blk_cell q1 0).trans rfl; have y1 : w3.cell? ⟨w.heap.size + 1, 1, none⟩ = some (.int .i64 b.f1) := (blk_cell q1 1).trans rfl; have y2 : w3.cell? ⟨w.heap.size + 1, 2, none⟩ = some (.int .i64 b.f2) := (blk_cell q1 2).trans rfl; have y3 : w3.cell? ⟨w.heap.size + 1, 3, none⟩ = some (.int .i64 b.f3) := (blk_cell q1 3).trans rfl; have y4 : w3.cell? ⟨w.heap.size + 1, 4, none⟩ = some (.slice Ab nb cb) := (blk_cell q1 4).trans rfl; have HRB3 := Lib.hid (Kd.C_below HRB.out hb3); clear hb3 q1)) | (go_at_call 30; go_loud ((with_reducible refine (HLB'.out _ HRB3.out).mono ?_); rintro e WX ⟨rfl, hb5⟩; have HB5 := Lib.hid hb5; clear hb5)))
  have hbx := HB3.out.trans (HB5.out.mono HB3.out.size)
  have HBX := Lib.hid (HB.out.trans (hbx.mono HB.out.size))
  have HRAX := Lib.hid (Kd.C_below HRA.out hbx)
  have HRBX := Lib.hid (Kd.C_below HRB.out hbx)
  have hx0 := blk_below H0.out hbx
  have hx1 := blk_below H1.out hbx
  have HX0 := Lib.hid hx0
  have HX1 := Lib.hid hx1
  clear hx0 hx1 hbx
  refine wp_region_held_drew (S := fun w_ => Below WX.heap.size WX w_) (by kernel_rfl) (below_drew (Below.refl _ _)) (fun hS_ => ?_)
  have hS : Below WX.heap.size WX _ := hS_
  clear hS_
  change wpAnyH _ _ _ _ _ 11 #[false, false, false, false, false, false, false, false, false, false, false] _ _
  refine takeE 0 (some 14) #[true, false, false, false, false, false, false, false, false, false, false] hS ?_ (hy := fun w_ hS_ => by (replace hS_ : Below WX.heap.size WX w_ := hS_); have q_ := blk_below HX0.out hS_; have x0_ : w_.cell? ⟨w.heap.size, 0, none⟩ = some (.int .i64 a.f0) := (blk_cell q_ 0).trans rfl; have x1_ : w_.cell? ⟨w.heap.size, 1, none⟩ = some (.int .i64 a.f1) := (blk_cell q_ 1).trans rfl; have x2_ : w_.cell? ⟨w.heap.size, 2, none⟩ = some (.int .i64 a.f2) := (blk_cell q_ 2).trans rfl; have x3_ : w_.cell? ⟨w.heap.size, 3, none⟩ = some (.int .i64 a.f3) := (blk_cell q_ 3).trans rfl; have x4_ : w_.cell? ⟨w.heap.size, 4, none⟩ = some (.slice Aa na ca) := (blk_cell q_ 4).trans rfl; go_simp <;> with_reducible rfl)
  refine takeE 1 (some 15) #[true, true, false, false, false, false, false, false, false, false, false] hS ?_ (hy := fun w_ hS_ => by (replace hS_ : Below WX.heap.size WX w_ := hS_); have q_ := blk_below HX1.out hS_; have x0_ : w_.cell? ⟨w.heap.size + 1, 0, none⟩ = some (.int .i64 b.f0) := (blk_cell q_ 0).trans rfl; have x1_ : w_.cell? ⟨w.heap.size + 1, 1, none⟩ = some (.int .i64 b.f1) := (blk_cell q_ 1).trans rfl; have x2_ : w_.cell? ⟨w.heap.size + 1, 2, none⟩ = some (.int .i64 b.f2) := (blk_cell q_ 2).trans rfl; have x3_ : w_.cell? ⟨w.heap.size + 1, 3, none⟩ = some (.int .i64 b.f3) := (blk_cell q_ 3).trans rfl; have x4_ : w_.cell? ⟨w.heap.size + 1, 4, none⟩ = some (.slice Ab nb cb) := (blk_cell q_ 4).trans rfl; go_simp <;> with_reducible rfl)
  refine takeE 3 (some 17) #[true, true, false, true, false, false, false, false, false, false, false] hS ?_ (hy := fun w_ hS_ => by (replace hS_ : Below WX.heap.size WX w_ := hS_); have q_ := blk_below HX0.out hS_; have x0_ : w_.cell? ⟨w.heap.size, 0, none⟩ = some (.int .i64 a.f0) := (blk_cell q_ 0).trans rfl; have x1_ : w_.cell? ⟨w.heap.size, 1, none⟩ = some (.int .i64 a.f1) := (blk_cell q_ 1).trans rfl; have x2_ : w_.cell? ⟨w.heap.size, 2, none⟩ = some (.int .i64 a.f2) := (blk_cell q_ 2).trans rfl; have x3_ : w_.cell? ⟨w.heap.size, 3, none⟩ = some (.int .i64 a.f3) := (blk_cell q_ 3).trans rfl; have x4_ : w_.cell? ⟨w.heap.size, 4, none⟩ = some (.slice Aa na ca) := (blk_cell q_ 4).trans rfl; go_simp <;> with_reducible rfl)
  refine takeE 4 (some 18) #[true, true, false, true, true, false, false, false, false, false, false] hS ?_ (hy := fun w_ hS_ => by (replace hS_ : Below WX.heap.size WX w_ := hS_); have q_ := blk_below HX1.out hS_; have x0_ : w_.cell? ⟨w.heap.size + 1, 0, none⟩ = some (.int .i64 b.f0) := (blk_cell q_ 0).trans rfl; have x1_ : w_.cell? ⟨w.heap.size + 1, 1, none⟩ = some (.int .i64 b.f1) := (blk_cell q_ 1).trans rfl; have x2_ : w_.cell? ⟨w.heap.size + 1, 2, none⟩ = some (.int .i64 b.f2) := (blk_cell q_ 2).trans rfl; have x3_ : w_.cell? ⟨w.heap.size + 1, 3, none⟩ = some (.int .i64 b.f3) := (blk_cell q_ 3).trans rfl; have x4_ : w_.cell? ⟨w.heap.size + 1, 4, none⟩ = some (.slice Ab nb cb) := (blk_cell q_ 4).trans rfl; go_simp <;> with_reducible rfl)
  refine doD (i := 2) (ls2 := #[true, true, true, true, true, false, false, false, false, false, false]) (by kernel_rfl) rfl (by kernel_rfl) (by kernel_rfl) (fun K hK => ?_)
  go_simp
  go_wp2_with (first | (go_at_call 33; go_loud ((with_reducible refine (HD.out _ (Kd.C_below HRAX.out hS) (Kd.C_below HRBX.out hS) (by omega) (by omega)).mono ?_); rintro e w6 ⟨v6, rfl, hR6, hb6⟩; obtain ⟨A6, c6, rfl, hc6, _⟩ := Kd.R_reads hR6)))
  refine hK.out _ _ ?_ (fun hS_ => ?_)
  · show Below WX.heap.size WX _
    exact hS.trans (hb6.mono hS.size)
  clear hK K hS hb6
  have hS : Below WX.heap.size WX _ := hS_
  clear hS_
  refine doD (i := 5) (ls2 := #[true, true, true, true, true, true, false, false, false, false, false]) (by kernel_rfl) rfl (by kernel_rfl) (by kernel_rfl) (fun K hK => ?_)
  go_simp
  go_wp2_with (first | (go_at_call 34; go_loud ((with_reducible refine (HDR.out _ (Kd.C_below HRAX.out hS) (Kd.C_below HRBX.out hS) (by omega) (by omega)).mono ?_); rintro e w7 ⟨v7, rfl, hR7, hb7⟩; obtain ⟨A7, c7, rfl, hc7, _⟩ := Kd.R_reads hR7; have hR67 := Kd.R_below hR6 hb7)))
  refine hK.out _ _ ?_ (fun hS_ => ?_)
  · show Below WX.heap.size WX _
    exact hS.trans (hb7.mono hS.size)
  clear hK K hS hb7
  have hS : Below WX.heap.size WX _ := hS_
  clear hS_
  refine doD (i := 6) (ls2 := #[true, true, true, true, true, true, true, false, false, false, false]) (by kernel_rfl) rfl (by kernel_rfl) (by kernel_rfl) (fun K hK => ?_)
  go_simp
  go_wp2_with (first | (go_at_call 32; go_loud ((with_reducible refine (headgateref06_SameRecords.calls (D.length + 1) A6 c6 D A7 c7 D true _ (Kd.R_reads' hR67).2.2 hc6 (Kd.R_reads' hR7).2.2 hc7 (sameR_f D (by have := HDL.out; omega))).mono ?_); rintro e w8 ⟨rfl, hb8'⟩; have hb8 := hb8'.below; clear hb8')))
  refine hK.out _ _ ?_ (fun hS_ => ?_)
  · show Below WX.heap.size WX _
    exact hS.trans (hb8.mono hS.size)
  clear hK K hS hb8
  have hS : Below WX.heap.size WX _ := hS_
  clear hS_
  refine takeE 7 (some 21) #[true, true, true, true, true, true, true, true, false, false, false] hS ?_
  refine doD (i := 8) (ls2 := #[true, true, true, true, true, true, true, true, true, false, false]) (by kernel_rfl) rfl (by kernel_rfl) (by kernel_rfl) (fun K hK => ?_)
  go_simp
  go_wp2_with (first | (go_at_call 31; go_loud ((with_reducible refine (HAW.out _).mono ?_); rintro e w9 ⟨rfl, hb9⟩)))
  refine hK.out _ _ ?_ (fun hS_ => ?_)
  · show Below WX.heap.size WX _
    exact hS.trans (hb9.mono hS.size)
  clear hK K hS hb9
  have hS : Below WX.heap.size WX _ := hS_
  clear hS_
  refine takeE 9 (some 23) #[true, true, true, true, true, true, true, true, true, true, false] hS ?_
  refine takeE 10 (some 4) #[true, true, true, true, true, true, true, true, true, true, true] hS ?_
  refine wpAnyH_done (by kernel_rfl) ?_ _
  try go_simp
  go_wp2
  go_ret
  exact ⟨rfl, HBX.out.trans (hS.mono HBX.out.size)⟩
end Go.Proofs.Ytgipepjpkmlmaaa.P
