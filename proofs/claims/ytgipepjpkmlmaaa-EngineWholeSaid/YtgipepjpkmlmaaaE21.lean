import Derived.Test.YtgipepjpkmlmaaaM9
import Derived.Test.YtgipepjpkmlmaaaE7
namespace Go.Proofs.Ytgipepjpkmlmaaa.P
open Go.RowKit Go.Proofs.YtgipepjpkmlmaaaW.PrintWords Go.Proofs.YtgipepjpkmlmaaaW.PrintLast Go.Proofs.YtgipepjpkmlmaaaW.PrintMore
set_option linter.unusedVariables false
set_option linter.unusedSimpArgs false

theorem cutR_size (r : S50) : (cutR r).f2.size ≤ 50 := by
  unfold cutR
  split
  · simp
    omega
  · omega
theorem someP_size (l : List S50) : ∀ r ∈ someP l, r.f2.size ≤ 50 := by
  intro r hr
  unfold someP at hr
  obtain ⟨x, _, rfl⟩ := List.mem_map.1 hr
  exact cutR_size x
theorem someP_length (l : List S50) : (someP l).length ≤ 150 := by
  unfold someP
  simp
  omega

/-- What a law holds behind its Run: the state's box, what is over, the error. -/
structure RunRes (w wc : World) (p : S28 × List S46 × Int) (v5 v6 v7 : Value) : Prop where
  e0 : v7 = .int .i64 p.2.2
  box : ∃ gb A c, v5 = .pointer (some ⟨gb, 0, none⟩) ∧ wc.heap[gb]? = some (.cells #[.int .i64 p.1.f0, .int .i64 p.1.f1, .int .i64 p.1.f2, .int .i64 p.1.f3, .slice A p.1.f4.length c] 28 (0, 0)) ∧ Kd.R k46 46 wc w.heap.size (fun _ => True) (.slice A p.1.f4.length c) p.1.f4
  row : ∃ A c, v6 = .slice A p.2.1.length c ∧ Kd.R k46 46 wc w.heap.size (fun _ => True) (.slice A p.2.1.length c) p.2.1

theorem run_err_l (g : S23) : ∀ (l : List S50) (s : S28) (all : List S46), (runL g l s all).2.2 ≠ 0 → (runL g l s all).2.1 = []
  | [], s, all, h => absurd rfl h
  | r :: rs, s, all, h => by
    rw [runL] at h ⊢
    by_cases h0 : (feedP g s r).2.2 = 0
    · rw [if_pos h0] at h ⊢; exact run_err_l g rs _ _ h
    · rw [if_neg h0]
theorem run_err_o (g : S23) (l : List S50) (s : S28) (he : (runP g s l).2.2 ≠ 0) : (runP g s l).2.1 = [] := by
  unfold runP at he ⊢
  split at he
  · rename_i c; rw [if_pos c]; exact run_err_l g l s [] he
  · rename_i c; rw [if_neg c]
theorem run_len (g : S23) : ∀ (l : List S50) (s : S28) (all : List S46), s.f4.length ≤ 1000 → (runL g l s all).2.1.length ≤ all.length + 1000 * l.length
  | [], s, all, h => by simp [runL]
  | r :: rs, s, all, h => by
    have hf := feedP_len (g := g) (s := s) (r := r) h
    rw [runL]
    split
    · have := run_len g rs (feedP g s r).1 (all ++ (feedP g s r).2.1) hf.1
      rw [List.length_append] at this
      rw [List.length_cons]
      omega
    · simp
theorem run_len_p (g : S23) (l : List S50) (s : S28) (h : s.f4.length ≤ 1000) : (runP g s l).2.1.length ≤ 1000 * l.length := by
  unfold runP
  split
  · have := run_len g l s [] h
    simpa using this
  · simp
theorem run_chk (g : S23) (l : List S50) (s : S28) (he : (runP g s l).2.2 = 0) : chkG g = true := by
  unfold runP at he
  split at he
  · rename_i c; exact checkP_grid c
  · cases he

theorem run_n (g : S23) : ∀ (l : List S50) (s : S28) (all : List S46), Inv g s → s.f3 + l.length ≤ 1000000 → (runL g l s all).2.2 = 0 → (runL g l s all).1.f3 ≤ s.f3 + l.length
  | [], s, all, hi, hn, he => by simp [runL]
  | r :: rs, s, all, hi, hn, he => by
    rw [List.length_cons] at hn
    rw [runL] at he ⊢
    by_cases h0 : (feedP g s r).2.2 = 0
    · rw [if_pos h0] at he ⊢
      have h1 := feed_n hi h0
      have h2 := run_n g rs _ _ (inv_feed hi (by omega) h0) (by omega) he
      rw [List.length_cons]
      omega
    · rw [if_neg h0] at he
      exact absurd he h0

theorem run_inv (g : S23) (L : List S50) (hl : L.length ≤ 1000) (he : (runP g awZ L).2.2 = 0) : Inv g (runP g awZ L).1 ∧ (runP g awZ L).1.f3 < 1000000 := by
  have hg := run_chk g L awZ he
  unfold runP at he ⊢
  have hc : checkP g awZ = true := inv_check (inv_zero hg)
  rw [if_pos hc] at he ⊢
  have hz : (awZ).f3 = 0 := rfl
  refine ⟨inv_run g L awZ [] (inv_zero hg) (by rw [hz]; omega) he, ?_⟩
  have := run_n g L awZ [] (inv_zero hg) (by rw [hz]; omega) he
  rw [hz] at this
  omega
end Go.Proofs.Ytgipepjpkmlmaaa.P
