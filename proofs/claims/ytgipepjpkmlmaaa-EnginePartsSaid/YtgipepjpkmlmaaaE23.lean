import Derived.Test.YtgipepjpkmlmaaaE21
namespace Go.Proofs.Ytgipepjpkmlmaaa.P
open Go.RowKit Go.Proofs.YtgipepjpkmlmaaaW.PrintWords Go.Proofs.YtgipepjpkmlmaaaW.PrintLast Go.Proofs.YtgipepjpkmlmaaaW.PrintMore
set_option linter.unusedVariables false
set_option linter.unusedSimpArgs false

theorem runL_acc (g : S23) : ∀ (l : List S50) (s : S28) (all : List S46), (runL g l s all).2.2 = (runL g l s []).2.2 ∧ (runL g l s all).1 = (runL g l s []).1 ∧
    ((runL g l s []).2.2 = 0 → (runL g l s all).2.1 = all ++ (runL g l s []).2.1)
  | [], s, all => by simp [runL]
  | r :: rs, s, all => by
    rw [runL, runL]
    by_cases h0 : (feedP g s r).2.2 = 0
    · rw [if_pos h0, if_pos h0]
      obtain ⟨a1, a2, a3⟩ := runL_acc g rs (feedP g s r).1 (all ++ (feedP g s r).2.1)
      obtain ⟨b1, b2, b3⟩ := runL_acc g rs (feedP g s r).1 ([] ++ (feedP g s r).2.1)
      refine ⟨a1.trans b1.symm, a2.trans b2.symm, fun h => ?_⟩
      have h' := b1.symm.trans h
      rw [a3 h', b3 h']
      simp
    · rw [if_neg h0, if_neg h0]
      exact ⟨rfl, rfl, fun h => absurd h h0⟩
theorem runL_app (g : S23) : ∀ (l1 l2 : List S50) (s : S28) (all : List S46), (runL g (l1 ++ l2) s all).2.2 = 0 → (runL g l1 s all).2.2 = 0 ∧ runL g (l1 ++ l2) s all = runL g l2 (runL g l1 s all).1 (runL g l1 s all).2.1
  | [], l2, s, all, h => ⟨rfl, rfl⟩
  | r :: rs, l2, s, all, h => by
    rw [List.cons_append, runL] at h ⊢
    rw [runL]
    by_cases h0 : (feedP g s r).2.2 = 0
    · rw [if_pos h0] at h ⊢
      rw [if_pos h0]
      exact runL_app g rs l2 _ _ h
    · rw [if_neg h0] at h
      exact absurd h h0
/-- Two parts come to the same as both together. -/
theorem parts_law (g : S23) (l : List S50) (k : Nat) (hl : l.length ≤ 1000) (he : (runP g awZ l).2.2 = 0) :
    (runP g awZ (l.take k)).2.2 = 0 ∧ Inv g (runP g awZ (l.take k)).1 ∧ (runP g (runP g awZ (l.take k)).1 (l.drop k)).2.2 = 0 ∧ (runP g (runP g awZ (l.take k)).1 (l.drop k)).1 = (runP g awZ l).1 ∧
    (runP g awZ l).2.1 = (runP g awZ (l.take k)).2.1 ++ (runP g (runP g awZ (l.take k)).1 (l.drop k)).2.1 ∧ Inv g (runP g awZ l).1 := by
  have hg := run_chk g l awZ he
  have hc : checkP g awZ = true := inv_check (inv_zero hg)
  have e1 : ∀ x, runP g awZ x = runL g x awZ [] := fun x => by unfold runP; rw [if_pos hc]
  have hz : (awZ).f3 = 0 := rfl
  rw [e1] at he ⊢
  rw [e1]
  have hsp : runL g l awZ [] = runL g (l.take k ++ l.drop k) awZ [] := by rw [List.take_append_drop]
  have hi := inv_run g l awZ [] (inv_zero hg) (by rw [hz]; omega) he
  rw [hsp] at he hi ⊢
  obtain ⟨h1, h2⟩ := runL_app g (l.take k) (l.drop k) awZ [] he
  rw [h2] at he hi ⊢
  have hi1 := inv_run g (l.take k) awZ [] (inv_zero hg) (by rw [hz, List.length_take]; omega) h1
  have e2 : runP g (runL g (l.take k) awZ []).1 (l.drop k) = runL g (l.drop k) (runL g (l.take k) awZ []).1 [] := by unfold runP; rw [if_pos (inv_check hi1)]
  rw [e2]
  obtain ⟨a1, a2, a3⟩ := runL_acc g (l.drop k) (runL g (l.take k) awZ []).1 (runL g (l.take k) awZ []).2.1
  refine ⟨h1, hi1, a1.symm.trans he, a2.symm, a3 (a1.symm.trans he), hi⟩
/-- The place of the cut. -/
theorem cut_place (cut n : Int) (h0 : -9223372036854775808 ≤ cut) (h1 : cut ≤ 9223372036854775807) (hn : 0 ≤ n) (hn2 : n ≤ 1000) :
    ∃ k : Nat, (k : Int) ≤ n ∧ Int.tmod (wrap64 (wrap64 (Int.tmod cut (n + 1) + n) + 1)) (n + 1) = (k : Int) := by
  have a := Int.tmod_lt_of_pos cut (show 0 < n + 1 by omega)
  have b : -(n + 1) < Int.tmod cut (n + 1) := by
    have := Int.lt_tmod_of_pos cut (show 0 < n + 1 by omega)
    omega
  have w1 : wrap64 (wrap64 (Int.tmod cut (n + 1) + n) + 1) = Int.tmod cut (n + 1) + n + 1 := by unfold wrap64; omega
  rw [w1]
  rw [Int.tmod_eq_emod_of_nonneg (by omega)]
  have c := Int.emod_nonneg (Int.tmod cut (n + 1) + n + 1) (show n + 1 ≠ 0 by omega)
  have d := Int.emod_lt_of_pos (Int.tmod cut (n + 1) + n + 1) (show 0 < n + 1 by omega)
  exact ⟨((Int.tmod cut (n + 1) + n + 1) % (n + 1)).toNat, by omega, by omega⟩
end Go.Proofs.Ytgipepjpkmlmaaa.P
