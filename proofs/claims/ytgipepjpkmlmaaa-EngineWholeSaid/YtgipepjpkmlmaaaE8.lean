import Derived.Test.YtgipepjpkmlmaaaE7
import Derived.Test.YtgipepjpkmlmaaaF23
import Derived.Test.YtgipepjpkmlmaaaM1
import Derived.Lib.Strings
namespace Go.Proofs.Ytgipepjpkmlmaaa.P
open Go.RowKit Go.Proofs.YtgipepjpkmlmaaaW.PrintWords Go.Proofs.YtgipepjpkmlmaaaW.PrintLast Go.Proofs.YtgipepjpkmlmaaaW.PrintMore
set_option linter.unusedVariables false
set_option linter.unusedSimpArgs false

/-- The sevens of a number, the lowest first. -/
def encI : Nat → Int → List Int
  | 0, u => [u]
  | f + 1, u => if u > 127 then (u % 128 + 128) :: encI f (u / 128) else [u]
def decI : List Int → Int
  | [] => 0
  | b :: t => b % 128 + 128 * decI t
theorem decI_nonneg : ∀ l, 0 ≤ decI l
  | [] => Int.le_refl _
  | b :: t => by have := decI_nonneg t; unfold decI; omega
theorem dec_enc : ∀ f u, 0 ≤ u → u < 128 ^ (f + 1) → decI (encI f u) = u
  | 0, u, h0, h1 => by simp [encI, decI]; omega
  | f + 1, u, h0, h1 => by
    unfold encI
    split
    · have := dec_enc f (u / 128) (by omega) (by rw [Int.pow_succ] at h1; omega)
      unfold decI
      omega
    · simp [decI]
      omega
theorem enc_ne : ∀ f u, encI f u ≠ []
  | 0, u => by simp [encI]
  | f + 1, u => by unfold encI; split <;> simp
theorem enc_last : ∀ f u, 1 ≤ u → ∀ h, (encI f u).getLast h ≠ 0
  | 0, u, h1, h => by simp [encI]; omega
  | f + 1, u, h1, h => by
    by_cases c : u > 127
    · have e : encI (f + 1) u = (u % 128 + 128) :: encI f (u / 128) := by rw [encI, if_pos c]
      have h2 := enc_last f (u / 128) (by omega) (enc_ne _ _)
      simp only [e]
      rw [List.getLast_cons (enc_ne _ _)]
      exact h2
    · have e : encI (f + 1) u = [u] := by rw [encI, if_neg c]
      simp only [e, List.getLast_singleton]
      omega
theorem dec_snoc : ∀ (l : List Int) (b : Int), decI (l ++ [b]) = decI l + 128 ^ l.length * (b % 128)
  | [], b => by simp [decI]
  | a :: t, b => by
    have := dec_snoc t b
    simp only [List.cons_append, decI, this, List.length_cons, Int.pow_succ]
    rw [Int.mul_add, Int.add_assoc, ← Int.mul_assoc, Int.mul_comm 128 (128 ^ t.length)]
theorem dec_lt : ∀ l : List Int, decI l < 128 ^ l.length
  | [] => by simp [decI]
  | a :: t => by
    have := dec_lt t
    unfold decI
    rw [List.length_cons, Int.pow_succ]
    omega
theorem enc_dec : ∀ (l : List Int) (b : Int) (f : Nat), (∀ x ∈ l, 128 ≤ x ∧ x ≤ 255) → 0 ≤ b → b < 128 → (l ≠ [] → b ≠ 0) → l.length ≤ f → encI f (decI (l ++ [b])) = l ++ [b]
  | [], b, f, hw, h0, h1, hc, hf => by
    have e : decI ([] ++ [b]) = b := by simp [decI]; omega
    rw [e]
    cases f with
    | zero => rfl
    | succ f => rw [encI, if_neg (by omega)]; rfl
  | a :: t, b, f, hw, h0, h1, hc, hf => by
    obtain ⟨f, rfl⟩ : ∃ g, f = g + 1 := ⟨f - 1, by simp at hf; omega⟩
    have ha := hw a (by simp)
    have ih := enc_dec t b f (fun x hx => hw x (by simp [hx])) h0 h1 (fun _ => hc (by simp)) (by simp at hf; omega)
    have hpos : 1 ≤ decI (t ++ [b]) := by
      rw [dec_snoc]
      have := decI_nonneg t
      have hb : 1 ≤ b % 128 := by have := hc (by simp); omega
      have hp : (0 : Int) < 128 ^ t.length := Int.pow_pos (by omega)
      have : (128 : Int) ^ t.length * 1 ≤ 128 ^ t.length * (b % 128) := Int.mul_le_mul_of_nonneg_left hb (by omega)
      omega
    have e : decI (a :: t ++ [b]) = a % 128 + 128 * decI (t ++ [b]) := rfl
    rw [e, encI, if_pos (by omega), show (a % 128 + 128 * decI (t ++ [b])) % 128 + 128 = a by omega, show (a % 128 + 128 * decI (t ++ [b])) / 128 = decI (t ++ [b]) by omega, ih]
    rfl
theorem enc_iff (l : List Int) (b : Int) (hw : ∀ x ∈ l, 128 ≤ x ∧ x ≤ 255) (h0 : 0 ≤ b) (h1 : b < 128) (hl : l.length ≤ 9) :
    encI 9 (decI (l ++ [b]) % 18446744073709551616) = l ++ [b] ↔ ¬((l ≠ [] ∧ b = 0) ∨ (l.length = 9 ∧ 1 < b)) := by
  have hn := decI_nonneg (l ++ [b])
  have hD : decI (l ++ [b]) < 18446744073709551616 ↔ ¬(l.length = 9 ∧ 1 < b) := by
    have h3 := dec_snoc l b
    have h4 := dec_lt l
    have h5 := decI_nonneg l
    constructor
    · rintro h ⟨h6, h7⟩
      rw [h6] at h3 h4
      omega
    · intro h
      by_cases h6 : l.length = 9
      · rw [h6] at h3 h4
        omega
      · have h7 := dec_lt (l ++ [b])
        have h9 : ∀ n : Fin 10, (128 : Int) ^ n.val ≤ 128 ^ 9 := by decide
        have h8 : (128 : Int) ^ (l ++ [b]).length ≤ 128 ^ 9 := h9 ⟨(l ++ [b]).length, by simp; omega⟩
        omega
  constructor
  · intro h
    have h2 := dec_enc 9 (decI (l ++ [b]) % 18446744073709551616) (by omega) (by omega)
    rw [h] at h2
    rintro (⟨h3, h4⟩ | h3)
    · have hu : 1 ≤ decI (l ++ [b]) := by
        cases l with
        | nil => exact absurd rfl h3
        | cons a t =>
          by_cases hz : decI (a :: t ++ [b]) = 0
          · rw [hz] at h
            simp [encI] at h
          · omega
      have h5 := enc_last 9 (decI (l ++ [b]) % 18446744073709551616) (by omega) (enc_ne _ _)
      apply h5
      simp only [h]
      rw [List.getLast_append_of_ne_nil _ (by simp)]
      exact h4
    · exact (hD.1 (by omega)) h3
  · intro h
    rw [Int.emod_eq_of_lt hn (hD.2 (fun h2 => h (.inr h2)))]
    exact enc_dec l b 9 hw h0 h1 (fun h2 h3 => h (.inl ⟨h2, h3⟩)) hl

theorem enc_range : ∀ f u, 0 ≤ u → u < 128 ^ (f + 1) → ∀ x ∈ encI f u, 0 ≤ x ∧ x < 256
  | 0, u, h0, h1, x, hx => by simp [encI] at hx; subst hx; omega
  | f + 1, u, h0, h1, x, hx => by
    unfold encI at hx
    split at hx
    · rcases List.mem_cons.1 hx with rfl | hx
      · omega
      · exact enc_range f (u / 128) (by omega) (by rw [Int.pow_succ] at h1; omega) x hx
    · simp at hx
      subst hx
      omega
/-- The first bytes of a text. -/
def bts (s : ByteArray) (n : Nat) : List Int := (List.range n).map (fun j : Nat => bt s (j : Int))
theorem bytes_iff (s : ByteArray) (L : List Int) (hL : ∀ x ∈ L, 0 ≤ x ∧ x < 256) (n : Nat) (hn : n ≤ s.size) : ((strOfNums L).toList = (s.extract 0 n).toList) ↔ L = bts s n := by
  have h1 : ((strOfNums L).toList).map (fun b : UInt8 => (b.toNat : Int)) = L := by
    rw [Lib.toList_data]
    unfold strOfNums
    simp only [List.map_map]
    conv => rhs; rw [← List.map_id L]
    refine List.map_congr_left (fun x hx => ?_)
    have := hL x hx
    simp only [Function.comp, id, UInt8.toNat_ofNat']
    omega
  have h2 : ((s.extract 0 n).toList).map (fun b : UInt8 => (b.toNat : Int)) = bts s n := by
    rw [Lib.toList_data, Lib.extract_data, List.drop_zero, Nat.sub_zero]
    apply List.ext_getElem
    · simp [bts]
      have : s.data.size = s.size := rfl
      omega
    · intro j h3 h4
      have hj : j < n := by simpa [bts] using h4
      have hjs : j < s.size := by omega
      simp [bts, bt, hjs]
      rfl
  constructor
  · intro h
    rw [← h1, h, h2]
  · intro h
    have h3 : ((strOfNums L).toList).map (fun b : UInt8 => (b.toNat : Int)) = ((s.extract 0 n).toList).map (fun b : UInt8 => (b.toNat : Int)) := by rw [h1, h2, h]
    exact List.map_inj_right (fun a b hab => UInt8.toNat_inj.1 (by omega)) |>.1 h3
theorem put_l0 : ∀ (f : Nat) (u : Int) (acc : List Int) (k : Nat), 0 ≤ u → u < 128 ^ (f + 1) → u < 18446744073709551616 → f < k → acc.length + f ≤ 1000 → headgateref01_Put.l0 k u acc = some (strOfNums (acc ++ encI f u))
  | 0, u, acc, k, h0, h1, h2, hk, ha => by
    obtain ⟨k, rfl⟩ : ∃ j, k = j + 1 := ⟨k - 1, by omega⟩
    rw [headgateref01_Put.l0, if_neg (by omega), if_pos (by omega)]
    simp only [encI]
    rw [show u % 256 = u by omega]
  | f + 1, u, acc, k, h0, h1, h2, hk, ha => by
    obtain ⟨k, rfl⟩ : ∃ j, k = j + 1 := ⟨k - 1, by omega⟩
    rw [headgateref01_Put.l0]
    unfold encI
    have e1 : Int.tdiv u 128 = u / 128 := Int.tdiv_eq_ediv_of_nonneg h0
    have e2 : Int.tmod u 128 = u % 128 := Int.tmod_eq_emod_of_nonneg h0
    by_cases c : u > 127
    · rw [if_pos c, if_pos c, if_pos (by omega), e1, e2, IntKind.wrap_u64, IntKind.wrap_u64, show (u % 128 + 128) % 18446744073709551616 % 256 = u % 128 + 128 by omega, show u / 128 % 18446744073709551616 = u / 128 by omega,
        put_l0 f (u / 128) _ k (by omega) (by rw [Int.pow_succ] at h1; omega) (by omega) (by omega) (by simp; omega)]
      simp
    · rw [if_neg c, if_neg c, if_pos (by omega), show u % 256 = u by omega]
/-- The number that bits say. -/
def numU (u : Int) : Int := if Int.tmod u 2 = 1 then wrap64 ((wrap64 (-(wrap64 (IntKind.u64.wrap (Int.tdiv u 2))))) - 1) else wrap64 (IntKind.u64.wrap (Int.tdiv u 2))
theorem put_num (u : Int) (k : Nat) (h0 : 0 ≤ u) (h1 : u < 18446744073709551616) (hk : 11 ≤ k) : headgateref01_Put.f k (numU u) = some (strOfNums (encI 9 u)) := by
  have e1 : Int.tdiv u 2 = u / 2 := Int.tdiv_eq_ediv_of_nonneg h0
  have e2 : Int.tmod u 2 = u % 2 := Int.tmod_eq_emod_of_nonneg h0
  obtain ⟨k, rfl⟩ : ∃ j, k = j + 1 := ⟨k - 1, by omega⟩
  have hj : ∀ x : Int, x = u → headgateref01_Put.j0 (k + 1) x = some (strOfNums (encI 9 u)) := by
    rintro x rfl
    rw [headgateref01_Put.j0, put_l0 9 x [] k h0 (by omega) h1 (by omega) (by simp)]
    rfl
  unfold numU headgateref01_Put.f
  rw [e1, e2]
  simp only [IntKind.wrap_u64]
  by_cases c : u % 2 = 1
  · rw [if_pos c]
    have hn : wrap64 (wrap64 (-wrap64 (u / 2 % 18446744073709551616)) - 1) = -(u / 2) - 1 := by unfold wrap64; omega
    rw [hn, if_pos (by omega)]
    exact hj _ (by unfold wrap64; omega)
  · rw [if_neg c]
    have hn : wrap64 (u / 2 % 18446744073709551616) = u / 2 := by unfold wrap64; omega
    rw [hn, if_neg (by omega)]
    exact hj _ (by omega)
end Go.Proofs.Ytgipepjpkmlmaaa.P
