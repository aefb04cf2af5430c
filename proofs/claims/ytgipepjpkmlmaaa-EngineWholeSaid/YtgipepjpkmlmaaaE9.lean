import Derived.Test.YtgipepjpkmlmaaaE8
namespace Go.Proofs.Ytgipepjpkmlmaaa.P
open Go.RowKit Go.Proofs.YtgipepjpkmlmaaaW.PrintWords Go.Proofs.YtgipepjpkmlmaaaW.PrintLast Go.Proofs.YtgipepjpkmlmaaaW.PrintMore
set_option linter.unusedVariables false
set_option linter.unusedSimpArgs false

/-- The first byte below 128, of some. -/
def scanK (s : ByteArray) : Nat → Nat → Option Nat
  | 0, _ => none
  | f + 1, k => if k = s.size then none else if 128 ≤ bt s (k : Int) then scanK s f (k + 1) else some k
theorem scan_spec (s : ByteArray) : ∀ f k K, k ≤ s.size → scanK s f k = some K → k ≤ K ∧ K < k + f ∧ K < s.size ∧ bt s (K : Int) < 128 ∧ ∀ j, k ≤ j → j < K → 128 ≤ bt s (j : Int)
  | 0, k, K, hk, h => by simp [scanK] at h
  | f + 1, k, K, hk, h => by
    unfold scanK at h
    split at h
    · cases h
    · split at h
      · rename_i h1 h2
        obtain ⟨a, b, c, d, e⟩ := scan_spec s f (k + 1) K (by omega) h
        refine ⟨by omega, by omega, c, d, fun j h3 h4 => ?_⟩
        by_cases h5 : j = k
        · subst h5; exact h2
        · exact e j (by omega) h4
      · rename_i h1 h2
        cases h
        exact ⟨by omega, by omega, by omega, by omega, fun j h3 h4 => by omega⟩
def badK (s : ByteArray) (K : Nat) : Prop := (0 < K ∧ bt s (K : Int) = 0) ∨ (K = 9 ∧ 1 < bt s (K : Int))
theorem tk_none (s : ByteArray) : ∀ f k u, k + f = 10 → scanK s f k = none → (tkL s (f + 1) k u).2.2 = 2
  | 0, k, u, hk, h => by
    obtain rfl : k = 10 := by omega
    simp [tkL]
  | f + 1, k, u, hk, h => by
    unfold scanK at h
    rw [tkL]
    by_cases c : k = s.size
    · rw [if_pos (.inl c)]
    · rw [if_neg c] at h
      rw [if_neg (by omega)]
      by_cases d : 128 ≤ bt s (k : Int)
      · rw [if_pos d] at h ⊢
        exact tk_none s f (k + 1) _ (by omega) h
      · rw [if_neg d] at h
        cases h
theorem tk_some (s : ByteArray) : ∀ f k u K, k + f = 10 → scanK s f k = some K → (badK s K → (tkL s (f + 1) k u).2.2 = 2) ∧ (¬ badK s K → (tkL s (f + 1) k u).2.2 = 0 ∧ (tkL s (f + 1) k u).2.1 = s.extract (K + 1) s.size)
  | 0, k, u, K, hk, h => by simp [scanK] at h
  | f + 1, k, u, K, hk, h => by
    unfold scanK at h
    rw [tkL]
    by_cases c : k = s.size
    · rw [if_pos c] at h; cases h
    · rw [if_neg c] at h
      rw [if_neg (by omega)]
      by_cases d : 128 ≤ bt s (k : Int)
      · rw [if_pos d] at h ⊢
        exact tk_some s f (k + 1) _ K (by omega) h
      · rw [if_neg d] at h ⊢
        cases h
        constructor
        · intro hb; unfold badK at hb; rw [if_pos hb]
        · intro hb; unfold badK at hb; rw [if_neg hb]; exact ⟨rfl, rfl⟩
theorem rl_none (s : ByteArray) : ∀ f k M, k + f = 10 → k ≤ s.size → scanK s f k = none → headgateref01_Take.l0 (M + f + 3) s (k : Int) = some (0, ⟨#[]⟩, 2)
  | 0, k, M, hk, hs, h => by
    obtain rfl : k = 10 := by omega
    have hj : headgateref01_Take.j1 (M + 2) s ((10 : Nat) : Int) = some (0, ⟨#[]⟩, 2) := by
      rw [headgateref01_Take.j1]
      split
      · rw [headgateref01_Take.j2, if_pos rfl]
      · rw [headgateref01_Take.j2, if_pos (by rfl)]
    rw [show M + 0 + 3 = (M + 2) + 1 by omega, headgateref01_Take.l0]
    by_cases c : (((10 : Nat) : Int)) < (s.size : Int)
    · rw [if_pos c, if_neg (by omega), hj]
    · rw [if_neg c, hj]
  | f + 1, k, M, hk, hs, h => by
    unfold scanK at h
    by_cases c : k = s.size
    · rw [show M + (f + 1) + 3 = (M + f + 1 + 2) + 1 by omega, headgateref01_Take.l0, if_neg (by omega), headgateref01_Take.j1, if_pos (by omega), headgateref01_Take.j2, if_pos rfl]
    · rw [if_neg c] at h
      by_cases d : 128 ≤ bt s (k : Int)
      · rw [if_pos d] at h
        have hw : wrap64 ((k : Int) + 1) = ((k + 1 : Nat) : Int) := by unfold wrap64; omega
        rw [show M + (f + 1) + 3 = (M + f + 3) + 1 by omega, headgateref01_Take.l0, if_pos (by omega), if_pos (by omega), if_pos (by omega), if_pos (by omega), hw]
        exact rl_none s f (k + 1) M (by omega) (by omega) h
      · rw [if_neg d] at h
        cases h
theorem rl_some (s : ByteArray) : ∀ f k K M, k + f = 10 → k ≤ s.size → scanK s f k = some K → headgateref01_Take.l0 (M + (K - k) + 3) s (k : Int) = headgateref01_Take.l1 M s (K : Int) 0 (K : Int)
  | 0, k, K, M, hk, hs, h => by simp [scanK] at h
  | f + 1, k, K, M, hk, hs, h => by
    have hsp := scan_spec s (f + 1) k K hs h
    unfold scanK at h
    by_cases c : k = s.size
    · rw [if_pos c] at h; cases h
    · rw [if_neg c] at h
      by_cases d : 128 ≤ bt s (k : Int)
      · rw [if_pos d] at h
        have h2 := scan_spec s f (k + 1) K (by omega) h
        have hw : wrap64 ((k : Int) + 1) = ((k + 1 : Nat) : Int) := by unfold wrap64; omega
        rw [show M + (K - k) + 3 = (M + (K - (k + 1)) + 3) + 1 by omega, headgateref01_Take.l0, if_pos (by omega), if_pos (by omega), if_pos (by omega), if_pos (by omega), hw]
        exact rl_some s f (k + 1) K M (by omega) (by omega) h
      · rw [if_neg d] at h
        cases h
        rw [show M + (k - k) + 3 = (M + 1 + 1) + 1 by omega, headgateref01_Take.l0, if_pos (by omega), if_pos (by omega), if_pos (by omega), if_neg (by omega), headgateref01_Take.j1, if_neg (by omega), headgateref01_Take.j2, if_neg (by
          have : ((k : Int) == 10) = false := beq_eq_false_iff_ne.2 (by omega)
          rw [this]; decide)]
theorem bts_length (s : ByteArray) (n : Nat) : (bts s n).length = n := by simp [bts]
theorem bts_drop (s : ByteArray) (n j : Nat) (hj : j < n) : (bts s n).drop j = bt s (j : Int) :: (bts s n).drop (j + 1) := by
  rw [List.drop_eq_getElem_cons (by rw [bts_length]; exact hj)]
  simp [bts]
/-- What is answered of the bits. -/
def endT (s : ByteArray) (K : Nat) (U : Int) : Int × ByteArray × Int := if (strOfNums (encI 9 U)).toList = (s.extract 0 (K + 1)).toList then (numU U, s.extract (K + 1) s.size, 0) else (0, ⟨#[]⟩, 2)
theorem rl_end (s : ByteArray) (K M : Nat) (U : Int) (hK : K < s.size) (hK9 : K ≤ 9) (h0 : 0 ≤ U) (h1 : U < 18446744073709551616) (hM : 11 ≤ M) : headgateref01_Take.l1 (M + 1) s (K : Int) U (-1) = some (endT s K U) := by
  have hw : wrap64 ((K : Int) + 1) = ((K + 1 : Nat) : Int) := by unfold wrap64; omega
  have hp := put_num U M h0 h1 hM
  rw [headgateref01_Take.l1, if_neg (by omega), hw, Int.toNat_natCast]
  unfold numU at hp
  unfold endT numU
  by_cases c : Int.tmod U 2 = 1
  · rw [if_pos c] at hp
    rw [if_pos c, hp, Option.bind_some, if_pos (by omega), if_pos (by omega)]
    split <;> simp_all
  · rw [if_neg c] at hp
    rw [if_neg c, hp, Option.bind_some, if_pos (by omega), if_pos (by omega)]
    split <;> simp_all
theorem rl_l1 (s : ByteArray) (K : Nat) (hK : K < s.size) (hK9 : K ≤ 9) : ∀ (j : Nat) (M : Nat), j ≤ K + 1 → 11 ≤ M →
    headgateref01_Take.l1 (M + 1 + j) s (K : Int) (decI ((bts s (K + 1)).drop j) % 18446744073709551616) ((j : Int) - 1) = some (endT s K (decI (bts s (K + 1)) % 18446744073709551616))
  | 0, M, hj, hM => by
    rw [List.drop_zero]
    exact rl_end s K M _ hK hK9 (by omega) (by omega) hM
  | j + 1, M, hj, hM => by
    have ih := rl_l1 s K hK hK9 j M (by omega) hM
    have hb := bt_range s (j : Int)
    have e : (((j + 1 : Nat) : Int) - 1) = (j : Int) := by omega
    have hw : wrap64 ((j : Int) - 1) = (j : Int) - 1 := by unfold wrap64; omega
    rw [e, show M + 1 + (j + 1) = (M + 1 + j) + 1 by omega, headgateref01_Take.l1, if_pos (by omega), if_pos (by omega), if_pos (by omega), hw, IntKind.wrap_u64, IntKind.wrap_u64, IntKind.wrap_u64]
    have hd : decI ((bts s (K + 1)).drop j) = bt s (j : Int) % 128 + 128 * decI ((bts s (K + 1)).drop (j + 1)) := by rw [bts_drop s (K + 1) j (by omega)]; rfl
    have hm : Int.tmod (bt s (j : Int) % 18446744073709551616) 128 = bt s (j : Int) % 128 := by rw [Int.tmod_eq_emod_of_nonneg (by omega)]; omega
    rw [hm, show (decI ((bts s (K + 1)).drop (j + 1)) % 18446744073709551616 * 128 % 18446744073709551616 + bt s (j : Int) % 128) % 18446744073709551616 = decI ((bts s (K + 1)).drop j) % 18446744073709551616 by rw [hd]; omega]
    exact ih
theorem end_iff (s : ByteArray) (K : Nat) (hs : scanK s 10 0 = some K) : ((strOfNums (encI 9 (decI (bts s (K + 1)) % 18446744073709551616))).toList = (s.extract 0 (K + 1)).toList) ↔ ¬ badK s K := by
  obtain ⟨_, h2, h3, h4, h5⟩ := scan_spec s 10 0 K (by omega) hs
  rw [bytes_iff s _ (enc_range 9 _ (by omega) (by omega)) (K + 1) (by omega)]
  have hsn : bts s (K + 1) = bts s K ++ [bt s (K : Int)] := by simp [bts, List.range_succ]
  have hl : (bts s K).length = K := bts_length s K
  have hb := bt_range s (K : Int)
  have := enc_iff (bts s K) (bt s (K : Int)) (fun x hx => by
    simp only [bts, List.mem_map, List.mem_range] at hx
    obtain ⟨j, hj, rfl⟩ := hx
    exact ⟨h5 j (by omega) hj, (bt_range s (j : Int)).2⟩) hb.1 h4 (by omega)
  rw [hsn, this, hl]
  unfold badK
  constructor
  · intro h c
    refine h ?_
    rcases c with ⟨a, b⟩ | c
    · exact .inl ⟨fun e => by rw [e] at hl; simp at hl; omega, b⟩
    · exact .inr c
  · intro h c
    refine h ?_
    rcases c with ⟨a, b⟩ | c
    · refine .inl ⟨?_, b⟩
      cases K with
      | zero => exact absurd (List.eq_nil_of_length_eq_zero hl) a
      | succ n => omega
    · exact .inr c
/-- Of a text both say alike whether it is a number. -/
theorem value_ref (a b : Int) (s : ByteArray) : ∃ k r, headgateref16_Value.f k a b s = some (r, (valP s).2) := by
  cases hs : scanK s 10 0 with
  | none =>
    have h1 := rl_none s 10 0 0 (by omega) (by omega) hs
    have h2 := tk_none s 10 0 0 (by omega) hs
    refine ⟨0 + 10 + 3, 0, ?_⟩
    unfold headgateref16_Value.f headgateref01_Take.f
    rw [show (0 : Int) = ((0 : Nat) : Int) from rfl, h1]
    simp [valP, h2]
  | some K =>
    obtain ⟨_, h2, h3, h4, h5⟩ := scan_spec s 10 0 K (by omega) hs
    have h1 := rl_some s 10 0 K (11 + 1 + (K + 1)) (by omega) (by omega) hs
    have h6 := rl_l1 s K h3 (by omega) (K + 1) 11 (by omega) (by omega)
    rw [List.drop_of_length_le (by rw [bts_length]; omega), show decI [] % 18446744073709551616 = 0 by rfl, show (((K + 1 : Nat) : Int) - 1) = (K : Int) by omega] at h6
    rw [h6] at h1
    have h7 := tk_some s 10 0 0 K (by omega) hs
    have h8 := end_iff s K hs
    refine ⟨11 + 1 + (K + 1) + (K - 0) + 3, (endT s K (decI (bts s (K + 1)) % 18446744073709551616)).1, ?_⟩
    unfold headgateref16_Value.f headgateref01_Take.f
    rw [show (0 : Int) = ((0 : Nat) : Int) from rfl, h1, Option.bind_some]
    by_cases c : badK s K
    · have e := h7.1 c
      have e2 : endT s K (decI (bts s (K + 1)) % 18446744073709551616) = (0, ⟨#[]⟩, 2) := by unfold endT; rw [if_neg (fun h => (h8.1 h) c)]
      rw [e2]
      simp [valP, e]
    · obtain ⟨e, e3⟩ := h7.2 c
      have e2 : endT s K (decI (bts s (K + 1)) % 18446744073709551616) = (numU (decI (bts s (K + 1)) % 18446744073709551616), s.extract (K + 1) s.size, 0) := by unfold endT; rw [if_pos (h8.2 c)]
      rw [e2]
      simp only [if_true]
      unfold valP
      rw [e, e3]
      congr 2
      cases h9 : (s.extract (K + 1) s.size).toList <;> simp [h9]
end Go.Proofs.Ytgipepjpkmlmaaa.P
