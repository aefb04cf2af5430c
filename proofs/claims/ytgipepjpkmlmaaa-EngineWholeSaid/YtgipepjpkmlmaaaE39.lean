import Derived.Test.YtgipepjpkmlmaaaE27
namespace Go.Proofs.Ytgipepjpkmlmaaa.P
open Go.RowKit Go.Proofs.YtgipepjpkmlmaaaW.PrintWords Go.Proofs.YtgipepjpkmlmaaaW.PrintLast Go.Proofs.YtgipepjpkmlmaaaW.PrintMore
set_option linter.unusedVariables false
set_option linter.unusedSimpArgs false

theorem enc_shape : ∀ (f : Nat) (u : Int), 0 ≤ u → u < 128 ^ (f + 1) → ∃ pre b, encI f u = pre ++ [b] ∧ (∀ x ∈ pre, 128 ≤ x ∧ x ≤ 255) ∧ 0 ≤ b ∧ b < 128 ∧ pre.length ≤ f
  | 0, u, h0, h1 => ⟨[], u, rfl, fun x h => absurd h List.not_mem_nil, h0, by simpa using h1, Nat.le_refl _⟩
  | f + 1, u, h0, h1 => by
    rw [encI]
    by_cases c : u > 127
    · rw [if_pos c]
      have hp : (128 : Int) ^ (f + 1 + 1) = 128 ^ (f + 1) * 128 := Int.pow_succ _ _
      obtain ⟨pre, b, e, h2, h3, h4, h5⟩ := enc_shape f (u / 128) (by omega) (Int.ediv_lt_of_lt_mul (by omega) (by rw [← hp]; exact h1))
      refine ⟨(u % 128 + 128) :: pre, b, by rw [e]; rfl, fun x hx => ?_, h3, h4, by rw [List.length_cons]; omega⟩
      rcases List.mem_cons.1 hx with rfl | hx
      · omega
      · exact h2 x hx
    · rw [if_neg c]
      exact ⟨[], u, rfl, fun x h => absurd h List.not_mem_nil, h0, by omega, Nat.zero_le _⟩
theorem scan_of (s : ByteArray) (K : Nat) (h1 : K < s.size) (h2 : bt s (K : Int) < 128) (h3 : ∀ j, j < K → 128 ≤ bt s (j : Int)) : ∀ f k, k ≤ K → K < k + f → scanK s f k = some K
  | 0, k, _, h => by omega
  | f + 1, k, hk, h => by
    rw [scanK, if_neg (by omega)]
    by_cases e : k = K
    · subst e
      rw [if_neg (by omega)]
    · rw [if_pos (h3 k (by omega))]
      exact scan_of s K h1 h2 h3 f (k + 1) (by omega) (by omega)
theorem val_enc (u : Int) (h0 : 0 ≤ u) (h1 : u < 18446744073709551616) : valP (strOfNums (encI 9 u)) = (numU u, true) := by
  have h128 : u < 128 ^ (9 + 1) := by
    have e : (128 : Int) ^ (9 + 1) = 1180591620717411303424 := by decide
    omega
  obtain ⟨pre, b, e, hp, b0, b1, hl⟩ := enc_shape 9 u h0 h128
  obtain ⟨s, hs⟩ : ∃ s, strOfNums (encI 9 u) = s := ⟨_, rfl⟩
  have hb : encI 9 u = bts s s.size := by
    have h := (bytes_iff s (encI 9 u) (enc_range 9 u h0 h128) s.size (Nat.le_refl _)).1
    refine h ?_
    rw [hs, ByteArray.extract_zero_size]
  have hsz : s.size = pre.length + 1 := by
    have := congrArg List.length hb
    rw [e, bts_length, List.length_append, List.length_singleton] at this
    exact this.symm
  have hbt : ∀ j (hj : j < s.size), bt s (j : Int) = (pre ++ [b])[j]'(by rw [List.length_append, List.length_singleton, ← hsz]; exact hj) := by
    intro j hj
    have h : (pre ++ [b])[j]? = (bts s s.size)[j]? := by rw [← e, hb]
    rw [List.getElem?_eq_getElem (by rw [List.length_append, List.length_singleton, ← hsz]; exact hj)] at h
    unfold bts at h
    rw [List.getElem?_map, List.getElem?_range hj] at h
    exact (Option.some.inj h).symm
  have hsc : scanK s 10 0 = some pre.length := by
    refine scan_of s pre.length (by omega) ?_ (fun j hj => ?_) 10 0 (Nat.zero_le _) (by omega)
    · rw [hbt _ (by omega), List.getElem_append_right (Nat.le_refl _)]
      simp only [Nat.sub_self, List.getElem_singleton]
      exact b1
    · rw [hbt _ (by omega), List.getElem_append_left hj]
      exact (hp _ (List.getElem_mem hj)).1
  have hdec : decI (bts s (pre.length + 1)) = u := by
    rw [← hsz, ← hb]
    exact dec_enc 9 u h0 h128
  have hnb : ¬ badK s pre.length := by
    refine (end_iff s pre.length hsc).1 ?_
    rw [hdec, Int.emod_eq_of_lt h0 h1, hs, ← hsz, ByteArray.extract_zero_size]
  obtain ⟨v1, _⟩ := tk_val s 10 0 0 pre.length (by omega) hsc hnb rfl
  obtain ⟨e1, e2⟩ := (tk_some s 10 0 0 pre.length (by omega) hsc).2 hnb
  rw [hs]
  unfold valP
  rw [v1, e1, e2, hdec, ← hsz]
  congr 1
  simp
/-- A number's text is a number, and the same. -/
theorem put_val (v : Int) (h0 : -9223372036854775808 ≤ v) (h1 : v ≤ 9223372036854775807) : ∃ s, headgateref01_Put.f 11 v = some s ∧ valP s = (v, true) ∧ s.size ≤ 10 := by
  obtain ⟨u, hu0, hu1, hu⟩ : ∃ u : Int, 0 ≤ u ∧ u < 18446744073709551616 ∧ numU u = v := by
    by_cases c : 0 ≤ v
    · refine ⟨2 * v, by omega, by omega, ?_⟩
      unfold numU
      rw [Int.tdiv_eq_ediv_of_nonneg (by omega), Int.tmod_eq_emod_of_nonneg (by omega), if_neg (by omega), wraps_u64 _ (by omega) (by omega)]
      unfold wrap64
      omega
    · refine ⟨-2 * v - 1, by omega, by omega, ?_⟩
      unfold numU
      rw [Int.tdiv_eq_ediv_of_nonneg (by omega), Int.tmod_eq_emod_of_nonneg (by omega), if_pos (by omega), wraps_u64 _ (by omega) (by omega)]
      unfold wrap64
      omega
  refine ⟨strOfNums (encI 9 u), ?_, ?_, ?_⟩
  · rw [← hu]
    exact put_num u 11 hu0 hu1 (Nat.le_refl _)
  · rw [val_enc u hu0 hu1, hu]
  · have h128 : u < 128 ^ (9 + 1) := by
      have e : (128 : Int) ^ (9 + 1) = 1180591620717411303424 := by decide
      omega
    obtain ⟨pre, b, e, _, _, _, hl⟩ := enc_shape 9 u hu0 h128
    rw [e]
    unfold strOfNums
    simp [ByteArray.size]
    omega
end Go.Proofs.Ytgipepjpkmlmaaa.P
