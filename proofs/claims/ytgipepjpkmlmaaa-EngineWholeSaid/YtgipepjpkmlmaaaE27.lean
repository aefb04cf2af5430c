import Derived.Test.YtgipepjpkmlmaaaE9
import Derived.Laws.Bits64
namespace Go.Proofs.Ytgipepjpkmlmaaa.P
open Go.RowKit Go.Proofs.YtgipepjpkmlmaaaW.PrintWords Go.Proofs.YtgipepjpkmlmaaaW.PrintLast Go.Proofs.YtgipepjpkmlmaaaW.PrintMore
set_option linter.unusedVariables false
set_option linter.unusedSimpArgs false

theorem wraps_u64 (n : Int) (h0 : 0 ≤ n) (h1 : n < 2 ^ 64) : IntKind.u64.wrap n = n := by rw [IntKind.wrap_u64]; omega
theorem tkOr_add (u b : Int) (k : Nat) (h0 : 0 ≤ u) (h1 : u < 128 ^ k) (b0 : 0 ≤ b) (b1 : b < 256) (hk : k ≤ 9) (hb : k = 9 → b % 128 ≤ 1) : tkOr u b k = u + b % 128 * 128 ^ k ∧ u + b % 128 * 128 ^ k < 18446744073709551616 ∧ u + b % 128 * 128 ^ k < 128 ^ (k + 1) := by
  have e7 : (2 : Int) ^ (7 * k) = 128 ^ k := by rw [Int.pow_mul]; rfl
  have hand : bits .and .u8 b 127 = b % 128 := bits_mask .u8 8 (by decide) wraps_u8 7 (by decide) b b0 b1
  have hm0 : 0 ≤ b % 128 := by omega
  have hm1 : b % 128 < 128 := by omega
  have hmul : b % 128 * 128 ^ k ≤ 127 * 128 ^ k := Int.mul_le_mul_of_nonneg_right (by omega) (Int.pow_nonneg (by omega))
  have hmul0 : 0 ≤ b % 128 * 128 ^ k := Int.mul_nonneg hm0 (Int.pow_nonneg (by omega))
  have hpow : (128 : Int) ^ (k + 1) = 128 * 128 ^ k := by rw [Int.pow_succ, Int.mul_comm]
  have hlt : u + b % 128 * 128 ^ k < 18446744073709551616 := by
    by_cases h9 : k = 9
    · subst h9
      have := hb rfl
      have e : (128 : Int) ^ 9 = 9223372036854775808 := by decide
      rw [e] at h1 ⊢
      omega
    · have hp : (128 : Int) ^ (k + 1) ≤ 128 ^ 9 := by
        have h := Nat.pow_le_pow_right (show 0 < 128 by decide) (show k + 1 ≤ 9 by omega)
        exact_mod_cast h
      have e : (128 : Int) ^ 9 = 9223372036854775808 := by decide
      rw [e, hpow] at hp
      omega
  refine ⟨?_, hlt, by rw [hpow]; omega⟩
  unfold tkOr
  rw [hand, wraps_u64 (b % 128) hm0 (by omega), e7, wraps_u64 _ hmul0 (by omega)]
  have hc : bits .or .u64 u (b % 128 * 128 ^ k) = bits .or .u64 (b % 128 * 128 ^ k) u := by
    unfold bits
    simp only [BitVec.or_comm]
  rw [hc]
  have := bits_join .u64 64 (by decide) wraps_u64 (7 * k) (b % 128 * 128 ^ k) u hmul0 (by rw [e7]; exact Int.mul_emod_left _ _) (by omega) h0 (by rw [e7]; exact h1) (by omega)
  rw [this]
  omega
theorem xor_zero (x : Int) (h0 : -9223372036854775808 ≤ x) (h1 : x ≤ 9223372036854775807) : bits .xor .i64 x 0 = x := by
  unfold bits
  have e : BitVec.ofInt IntKind.i64.bits 0 = 0#64 := by rfl
  simp only [e]
  show IntKind.i64.wrap (((BitVec.ofInt 64 x ^^^ 0#64).toNat : Nat) : Int) = x
  rw [BitVec.xor_zero, BitVec.toNat_ofInt, IntKind.wrap_i64]
  omega
theorem xor_ones (x : Int) (h0 : -9223372036854775808 ≤ x) (h1 : x ≤ 9223372036854775807) : bits .xor .i64 x (-1) = -x - 1 := by
  unfold bits
  have e : BitVec.ofInt IntKind.i64.bits (-1) = BitVec.allOnes 64 := by rfl
  simp only [e]
  show IntKind.i64.wrap (((BitVec.ofInt 64 x ^^^ BitVec.allOnes 64).toNat : Nat) : Int) = -x - 1
  rw [BitVec.xor_allOnes, BitVec.toNat_not, BitVec.toNat_ofInt, IntKind.wrap_i64]
  omega
theorem tkN_num (u : Int) (h0 : 0 ≤ u) (h1 : u < 18446744073709551616) : tkN u = numU u := by
  have hand : bits .and .u64 u 1 = u % 2 := bits_mask .u64 64 (by decide) wraps_u64 1 (by decide) u h0 h1
  have e1 : Int.tdiv u 2 = u / 2 := Int.tdiv_eq_ediv_of_nonneg h0
  have e2 : Int.tmod u 2 = u % 2 := Int.tmod_eq_emod_of_nonneg h0
  unfold tkN numU
  rw [hand, e1, e2, wraps_u64 (u / 2) (by omega) (by omega)]
  have w1 : wrap64 (u / 2) = u / 2 := by unfold wrap64; omega
  have w2 : wrap64 (u % 2) = u % 2 := by unfold wrap64; omega
  rw [w1, w2]
  by_cases c : u % 2 = 1
  · rw [if_pos c, c, show wrap64 (-1) = -1 by unfold wrap64; omega, xor_ones _ (by omega) (by omega)]
    unfold wrap64
    omega
  · rw [if_neg c, show u % 2 = 0 by omega, show wrap64 (-0) = 0 by unfold wrap64; omega, xor_zero _ (by omega) (by omega)]
theorem decI_take (s : ByteArray) : ∀ k, decI (bts s (k + 1)) = decI (bts s k) + bt s (k : Int) % 128 * 128 ^ k := by
  intro k
  have e : bts s (k + 1) = bts s k ++ [bt s (k : Int)] := by
    unfold bts
    rw [List.range_succ, List.map_append]
    rfl
  have hl : (bts s k).length = k := bts_length s k
  rw [e, dec_snoc, hl, Int.mul_comm]
theorem bt_range (s : ByteArray) (k : Int) : 0 ≤ bt s k ∧ bt s k < 256 := by
  unfold bt
  split
  · rename_i h
    have := UInt8.toNat_lt (s[k.toNat])
    omega
  · omega
theorem tk_val (s : ByteArray) : ∀ f k u K, k + f = 10 → scanK s f k = some K → ¬ badK s K → u = decI (bts s k) → (tkL s (f + 1) k u).1 = numU (decI (bts s (K + 1))) ∧ decI (bts s (K + 1)) < 18446744073709551616
  | 0, k, u, K, hk, h, _, _ => by simp [scanK] at h
  | f + 1, k, u, K, hk, h, hb, hu => by
    have hsp := scan_spec s (f + 1) k K
    unfold scanK at h
    rw [tkL]
    have hr := bt_range s (k : Int)
    have hul : u < 128 ^ k := by
      have := dec_lt (bts s k)
      rw [bts_length] at this
      rw [hu]
      exact this
    have hu0 : 0 ≤ u := by rw [hu]; exact decI_nonneg _
    by_cases c : k = s.size
    · rw [if_pos c] at h; cases h
    · rw [if_neg c] at h
      rw [if_neg (by omega)]
      by_cases d : 128 ≤ bt s (k : Int)
      · rw [if_pos d] at h ⊢
        have hkk : k ≠ 9 := by
          intro e
          have : f = 0 := by omega
          subst this
          simp [scanK] at h
        have ho := tkOr_add u (bt s (k : Int)) k hu0 hul hr.1 hr.2 (by omega) (fun e => absurd e hkk)
        refine tk_val s f (k + 1) _ K (by omega) h hb ?_
        rw [ho.1, decI_take, hu]
      · rw [if_neg d] at h ⊢
        cases h
        have hb' := hb
        unfold badK at hb
        rw [if_neg hb]
        have ho := tkOr_add u (bt s (k : Int)) k hu0 hul hr.1 hr.2 (by omega) (fun e => by subst e; omega)
        have e : tkOr u (bt s (k : Int)) k = decI (bts s (k + 1)) := by rw [ho.1, decI_take, hu]
        have hlt : decI (bts s (k + 1)) < 18446744073709551616 := by rw [← e, ho.1]; exact ho.2.1
        exact ⟨by show tkN (tkOr u (bt s (k : Int)) k) = _; rw [e]; exact tkN_num _ (decI_nonneg _) hlt, hlt⟩
/-- Both say the same number, if there is one. -/
theorem value_ref2 (a b : Int) (s : ByteArray) : ∃ k r, headgateref16_Value.f k a b s = some (r, (valP s).2) ∧ ((valP s).2 = true → r = (valP s).1) := by
  cases hs : scanK s 10 0 with
  | none =>
    obtain ⟨k, r, h⟩ := value_ref a b s
    refine ⟨k, r, h, fun hv => ?_⟩
    have h2 := tk_none s 10 0 0 (by omega) hs
    unfold valP at hv
    simp only [h2] at hv
    cases hv
  | some K =>
    obtain ⟨_, h2, h3, h4, h5⟩ := scan_spec s 10 0 K (by omega) hs
    have h1 := rl_some s 10 0 K (11 + 1 + (K + 1)) (by omega) (by omega) hs
    have h6 := rl_l1 s K h3 (by omega) (K + 1) 11 (by omega) (by omega)
    rw [List.drop_of_length_le (by rw [bts_length]; omega), show decI [] % 18446744073709551616 = 0 by rfl, show (((K + 1 : Nat) : Int) - 1) = (K : Int) by omega] at h6
    rw [h6] at h1
    have h7 := tk_some s 10 0 0 K (by omega) hs
    have h8 := end_iff s K hs
    refine ⟨11 + 1 + (K + 1) + (K - 0) + 3, (endT s K (decI (bts s (K + 1)) % 18446744073709551616)).1, ?_⟩
    unfold headgateref16_Value.f headgateref01_Take.f
    rw [show (0 : Int) = ((0 : Nat) : Int) from rfl, h1, Option.bind_some]
    by_cases c : badK s K
    · have e := h7.1 c
      have e2 : endT s K (decI (bts s (K + 1)) % 18446744073709551616) = (0, ⟨#[]⟩, 2) := by unfold endT; rw [if_neg (fun h => (h8.1 h) c)]
      rw [e2]
      simp [valP, e]
    · obtain ⟨e, e3⟩ := h7.2 c
      have e2 : endT s K (decI (bts s (K + 1)) % 18446744073709551616) = (numU (decI (bts s (K + 1)) % 18446744073709551616), s.extract (K + 1) s.size, 0) := by unfold endT; rw [if_pos (h8.2 c)]
      obtain ⟨v1, v2⟩ := tk_val s 10 0 0 K (by omega) hs c rfl
      rw [e2]
      refine ⟨?_, fun _ => ?_⟩
      · simp only [if_true]
        unfold valP
        rw [e, e3]
        congr 2
        cases h9 : (s.extract (K + 1) s.size).toList <;> simp [h9]
      · show numU (decI (bts s (K + 1)) % 18446744073709551616) = (valP s).1
        rw [Int.emod_eq_of_lt (decI_nonneg _) v2]
        exact v1.symm
theorem numU_range (u : Int) : -9223372036854775808 ≤ numU u ∧ numU u ≤ 9223372036854775807 := by
  unfold numU
  split <;> (unfold wrap64; omega)
theorem valP_range (s : ByteArray) (h : (valP s).2 = true) : -9223372036854775808 ≤ (valP s).1 ∧ (valP s).1 ≤ 9223372036854775807 := by
  cases hs : scanK s 10 0 with
  | none =>
    have h2 := tk_none s 10 0 0 (by omega) hs
    unfold valP at h
    simp only [h2] at h
    cases h
  | some K =>
    by_cases c : badK s K
    · have h7 := (tk_some s 10 0 0 K (by omega) hs).1 c
      unfold valP at h
      simp only [h7] at h
      cases h
    · obtain ⟨v1, _⟩ := tk_val s 10 0 0 K (by omega) hs c rfl
      show _ ≤ (tkL s 11 0 0).1 ∧ (tkL s 11 0 0).1 ≤ _
      rw [v1]
      exact numU_range _
end Go.Proofs.Ytgipepjpkmlmaaa.P
