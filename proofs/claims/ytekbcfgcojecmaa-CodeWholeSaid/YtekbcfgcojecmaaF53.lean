-- Written by this session's program drv.py, by means of the kit's printer; not a text of print.sh.
import Derived.Test.YtekbcfgcojecmaaF0
namespace Go.Proofs.Ytekbcfgcojecmaa.P
open Go.RowKit Go.Proofs.YtekbcfgcojecmaaW.PrintWords Go.Proofs.YtekbcfgcojecmaaW.PrintLast Go.Proofs.YtekbcfgcojecmaaW.PrintMore
attribute [local go_sem] max2_int min2_int max_two min_two max_three min_three max_four min_four   -- for this text's walks alone
set_option linter.unusedVariables false
set_option linter.unusedSimpArgs false

def tree_of.f (a0 : Int) : Option (ByteArray × Int × Int × Bool) := if a0 = 1 then (some ((⟨#[]⟩ : ByteArray), 8, 0, true)) else (if a0 = 2 then (some ((⟨#[107, 101, 121]⟩ : ByteArray), 8, 0, true)) else (if a0 = 3 then (some ((⟨#[116, 105, 109, 101]⟩ : ByteArray), 8, 0, true)) else (if a0 = 4 then (some ((⟨#[118, 97, 108, 117, 101]⟩ : ByteArray), 8, 0, true)) else (if a0 = 5 then (some ((⟨#[45]⟩ : ByteArray), 7, 1, true)) else (if a0 = 6 then (some ((⟨#[110, 111, 116]⟩ : ByteArray), 3, 1, true)) else (if a0 = 7 then (some ((⟨#[42]⟩ : ByteArray), 6, 2, true)) else (if a0 = 8 then (some ((⟨#[47]⟩ : ByteArray), 6, 2, true)) else (if a0 = 9 then (some ((⟨#[37]⟩ : ByteArray), 6, 2, true)) else (if a0 = 10 then (some ((⟨#[43]⟩ : ByteArray), 5, 2, true)) else (if a0 = 11 then (some ((⟨#[45]⟩ : ByteArray), 5, 2, true)) else (if a0 = 12 then (some ((⟨#[61]⟩ : ByteArray), 4, 2, true)) else (if a0 = 13 then (some ((⟨#[60, 62]⟩ : ByteArray), 4, 2, true)) else (if a0 = 14 then (some ((⟨#[60]⟩ : ByteArray), 4, 2, true)) else (if a0 = 15 then (some ((⟨#[60, 61]⟩ : ByteArray), 4, 2, true)) else (if a0 = 16 then (some ((⟨#[62]⟩ : ByteArray), 4, 2, true)) else (if a0 = 17 then (some ((⟨#[62, 61]⟩ : ByteArray), 4, 2, true)) else (if a0 = 18 then (some ((⟨#[97, 110, 100]⟩ : ByteArray), 2, 2, true)) else (if a0 = 19 then (some ((⟨#[111, 114]⟩ : ByteArray), 1, 2, true)) else (if a0 = 20 then (some ((⟨#[109, 105, 110]⟩ : ByteArray), 8, 2, true)) else (if a0 = 21 then (some ((⟨#[109, 97, 120]⟩ : ByteArray), 8, 2, true)) else (if a0 = 22 then (some ((⟨#[105, 102]⟩ : ByteArray), 8, 3, true)) else (some ((⟨#[]⟩ : ByteArray), 0, 0, false)))))))))))))))))))))))
set_option maxHeartbeats 8000000 in
set_option maxRecDepth 100000 in
theorem tree_of.calls (a0 : Int) (r1 : ByteArray) (r2 : Int) (r3 : Int) (r4 : Bool) (w : World) (h : tree_of.f a0 = some (r1, r2, r3, r4)) :
    Calls Try.prog 53 #[.int .i64 a0] w fun e w' => e = .returned (.tuple #[.agg #[.string r1, .int .i64 r2, .int .i64 r3], .bool r4]) ∧ Below w.heap.size w w' := by
  by_cases c : 1 ≤ a0 ∧ a0 ≤ 22
  · have hor : a0 = 1 ∨ a0 = 2 ∨ a0 = 3 ∨ a0 = 4 ∨ a0 = 5 ∨ a0 = 6 ∨ a0 = 7 ∨ a0 = 8 ∨ a0 = 9 ∨ a0 = 10 ∨ a0 = 11 ∨ a0 = 12 ∨ a0 = 13 ∨ a0 = 14 ∨ a0 = 15 ∨ a0 = 16 ∨ a0 = 17 ∨ a0 = 18 ∨ a0 = 19 ∨ a0 = 20 ∨ a0 = 21 ∨ a0 = 22 := by omega
    clear c
    rcases hor with rfl | rfl | rfl | rfl | rfl | rfl | rfl | rfl | rfl | rfl | rfl | rfl | rfl | rfl | rfl | rfl | rfl | rfl | rfl | rfl | rfl | rfl <;> (simp [tree_of.f] at h; obtain ⟨rfl, rfl, rfl, rfl⟩ := h; go_enter Try.func53, Try.ntmps53; go_wp2; refine bodyPost_ret (results_ct rfl _ _ w.heap.size 86 _ (0, 0) _ rfl (heap_alloc_new _ _) Try.underlying86 rfl (by kernel_rfl)) rfl ?_; exact ⟨rfl, (Below.refl _ _).alloc (Nat.le_refl _) _⟩)
  · have hb : ∀ j : Int, 1 ≤ j → j ≤ 22 → ¬ a0 = j := fun j h1 h2 e => c (by omega)
    unfold tree_of.f at h
    rw [if_neg (hb 1 (by decide) (by decide)), if_neg (hb 2 (by decide) (by decide)), if_neg (hb 3 (by decide) (by decide)), if_neg (hb 4 (by decide) (by decide)), if_neg (hb 5 (by decide) (by decide)), if_neg (hb 6 (by decide) (by decide)), if_neg (hb 7 (by decide) (by decide)), if_neg (hb 8 (by decide) (by decide)), if_neg (hb 9 (by decide) (by decide)), if_neg (hb 10 (by decide) (by decide)), if_neg (hb 11 (by decide) (by decide)), if_neg (hb 12 (by decide) (by decide)), if_neg (hb 13 (by decide) (by decide)), if_neg (hb 14 (by decide) (by decide)), if_neg (hb 15 (by decide) (by decide)), if_neg (hb 16 (by decide) (by decide)), if_neg (hb 17 (by decide) (by decide)), if_neg (hb 18 (by decide) (by decide)), if_neg (hb 19 (by decide) (by decide)), if_neg (hb 20 (by decide) (by decide)), if_neg (hb 21 (by decide) (by decide)), if_neg (hb 22 (by decide) (by decide))] at h
    simp only [Option.some.injEq, Prod.mk.injEq] at h
    obtain ⟨rfl, rfl, rfl, rfl⟩ := h
    have hq : ∀ j : Int, 1 ≤ j → j ≤ 22 → (a0 == j) = false := fun j h1 h2 => beq_eq_false_iff_ne.2 (hb j h1 h2)
    have q1 := hq 1 (by decide) (by decide)
    have q2 := hq 2 (by decide) (by decide)
    have q3 := hq 3 (by decide) (by decide)
    have q4 := hq 4 (by decide) (by decide)
    have q5 := hq 5 (by decide) (by decide)
    have q6 := hq 6 (by decide) (by decide)
    have q7 := hq 7 (by decide) (by decide)
    have q8 := hq 8 (by decide) (by decide)
    have q9 := hq 9 (by decide) (by decide)
    have q10 := hq 10 (by decide) (by decide)
    have q11 := hq 11 (by decide) (by decide)
    have q12 := hq 12 (by decide) (by decide)
    have q13 := hq 13 (by decide) (by decide)
    have q14 := hq 14 (by decide) (by decide)
    have q15 := hq 15 (by decide) (by decide)
    have q16 := hq 16 (by decide) (by decide)
    have q17 := hq 17 (by decide) (by decide)
    have q18 := hq 18 (by decide) (by decide)
    have q19 := hq 19 (by decide) (by decide)
    have q20 := hq 20 (by decide) (by decide)
    have q21 := hq 21 (by decide) (by decide)
    have q22 := hq 22 (by decide) (by decide)
    clear hq hb c
    go_enter Try.func53, Try.ntmps53
    go_wp2
    refine bodyPost_ret (results_ct rfl _ _ w.heap.size 86 _ (0, 0) _ rfl (heap_alloc_new _ _) Try.underlying86 rfl (by kernel_rfl)) rfl ?_
    exact ⟨rfl, (Below.refl _ _).alloc (Nat.le_refl _) _⟩

end Go.Proofs.Ytekbcfgcojecmaa.P
