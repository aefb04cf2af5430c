import Derived.Lib.Strings
import Derived.Laws.Bits64
import Derived.OpenShut
import Derived.WideShapes
import Derived.Test.YtgipepjpkmlmaaaQO2
import Derived.Test.YtgipepjpkmlmaaaQO3
import Derived.Test.YtgipepjpkmlmaaaQO4
import Derived.Test.YtgipepjpkmlmaaaQO5
import Derived.Test.YtgipepjpkmlmaaaQO6
namespace Go.Proofs.Ytgipepjpkmlmaaa.P
open Go.RowKit Go.Proofs.YtgipepjpkmlmaaaW.PrintWords Go.Proofs.YtgipepjpkmlmaaaW.PrintLast Go.Proofs.YtgipepjpkmlmaaaW.PrintMore
set_option linter.unusedVariables false
set_option linter.unusedSimpArgs false
/-- What Feed leaves: the state, what is over, the error. -/
def feedP (g : S23) (s : S28) (r : S50) : S28 × List S46 × Int :=
  if (checkP g s && ([r.f0, r.f1].all inB && !decide (r.f0 > 1048576))) = true then
    if s.f3 = 1099511627776 then (z28, [], 6)
    else if (valP r.f2).2 = true then
      let st := keepI g s.f0 (startsP g r.f1)
      let l1 := takeN r.f0 (valP r.f2).1 st s.f4
      let drop := decide (st.length = 0) || !decide (l1.length ≤ 64)
      let l2 := if drop = true then s.f4 else l1
      let m := mx s.f0 r.f1
      (⟨m, if drop = true then wrap64 (s.f1 + 1) else s.f1, s.f2, wrap64 (s.f3 + 1), l2.filter (fun c => !closedP g c.f1 m)⟩, l2.filter (fun c => closedP g c.f1 m), 0)
    else (⟨s.f0, s.f1, wrap64 (s.f2 + 1), wrap64 (s.f3 + 1), s.f4⟩, [], 0)
  else (z28, [], 1)
end Go.Proofs.Ytgipepjpkmlmaaa.P
namespace Go.Proofs.Ytgipepjpkmlmaaa.P
open Go.RowKit Go.Proofs.YtgipepjpkmlmaaaW.PrintWords Go.Proofs.YtgipepjpkmlmaaaW.PrintLast Go.Proofs.YtgipepjpkmlmaaaW.PrintMore
set_option linter.unusedVariables false
set_option linter.unusedSimpArgs false
/-- Records, one behind the other. -/
def runL (g : S23) : List S50 → S28 → List S46 → S28 × List S46 × Int
  | [], s, all => (s, all, 0)
  | r :: rs, s, all => if (feedP g s r).2.2 = 0 then runL g rs (feedP g s r).1 (all ++ (feedP g s r).2.1) else (z28, [], (feedP g s r).2.2)
def runP (g : S23) (s : S28) (l : List S50) : S28 × List S46 × Int := if checkP g s = true then runL g l s [] else (z28, [], 1)
/-- Run's boxes. -/
structure RunW (w wc : World) (g : S23) (s : S28) (v4 : Value) : Prop where
  gg : wc.heap[w.heap.size]? = some (.cells #[.int .i64 g.f0, .int .i64 g.f1, .int .i64 g.f2] 23 (0, 0))
  gs : wc.heap[w.heap.size + 1]? = some (.cells #[.int .i64 s.f0, .int .i64 s.f1, .int .i64 s.f2, .int .i64 s.f3, v4] 28 (0, 0))
  ge : wc.heap[w.heap.size + 2]? = some (.cells #[.int .i64 0, .int .i64 0, .int .i64 0, .int .i64 0, .slice none 0 0] 28 (0, 0))
  bl : Below w.heap.size w wc
  row : Kd.R k46 46 wc w.heap.size (fun k => w.heap.size + 3 ≤ k) v4 s.f4
theorem RunW.below {w wc w' : World} {g : S23} {s : S28} {v4 : Value} (h : RunW w wc g s v4) (hb : Below wc.heap.size wc w') : RunW w w' g s v4 :=
  ⟨blk_below h.gg hb, blk_below h.gs hb, blk_below h.ge hb, h.bl.trans (hb.mono h.bl.size), Kd.R_below h.row hb⟩
theorem RunW.size {w wc : World} {g : S23} {s : S28} {v4 : Value} (h : RunW w wc g s v4) : w.heap.size + 3 ≤ wc.heap.size := by
  have := lt_of_block h.ge
  omega
/-- The state, taken over. -/
theorem RunW.take {w wc : World} {g : S23} {s t : S28} {v4 v5 : Value} (h : RunW w wc g s v4) (hR : Kd.R k46 46 wc w.heap.size (fun k => w.heap.size + 3 ≤ k) v5 t.f4) :
    RunW w (put5 wc (w.heap.size + 1) (.int .i64 t.f0) (.int .i64 t.f1) (.int .i64 t.f2) (.int .i64 t.f3) v5) g t v5 :=
  ⟨(put5_other (by omega) _ _ _ _ _).trans h.gg, put5_heap h.gs _ _ _ _ _, (put5_other (by omega) _ _ _ _ _).trans h.ge, put5_below h.bl (by omega) _ _ _ _ _, R_other hR (fun k hk => put5_other (by omega) _ _ _ _ _)⟩
end Go.Proofs.Ytgipepjpkmlmaaa.P
namespace Go.Proofs.Ytgipepjpkmlmaaa.P
open Go.RowKit Go.Proofs.YtgipepjpkmlmaaaW.PrintWords Go.Proofs.YtgipepjpkmlmaaaW.PrintLast Go.Proofs.YtgipepjpkmlmaaaW.PrintMore
set_option linter.unusedVariables false
set_option linter.unusedSimpArgs false
def awG : S23 := ⟨10, 10, 0⟩
def awL : List S50 := [⟨1, 3, ⟨#[10]⟩⟩, ⟨1, 12, ⟨#[14]⟩⟩, ⟨1, 4, ⟨#[18]⟩⟩]
def awZ : S28 := ⟨-1, 0, 0, 0, []⟩
end Go.Proofs.Ytgipepjpkmlmaaa.P
namespace Go.Proofs.Ytgipepjpkmlmaaa.P
open Go.RowKit Go.Proofs.YtgipepjpkmlmaaaW.PrintWords Go.Proofs.YtgipepjpkmlmaaaW.PrintLast Go.Proofs.YtgipepjpkmlmaaaW.PrintMore
set_option linter.unusedVariables false
set_option linter.unusedSimpArgs false
/-- Records in a block of their own. -/
theorem recs_C {w : World} {g : Nat} (l : List S50) (hl : l.length ≤ 1000000) (h : w.heap[g]? = some (.cells (l.flatMap (fun r => [Value.int .i64 r.f0, .int .i64 r.f1, .string r.f2])).toArray 50 (0, 0))) : k50.C w (some ⟨g, 0, none⟩) l.length l := by
  refine ⟨rfl, by omega, fun _ => ⟨_, rfl, fun j p hj => ⟨[.int .i64 p.f0, .int .i64 p.f1, .string p.f2], rfl, k50_mk w p, fun i u hu => ?_⟩⟩⟩
  have hi : i < 3 := (List.getElem?_eq_some_iff.1 hu).1
  have e : ((⟨g, 0, none⟩ : Addr).add (j * k50.sz + i)) = ⟨g, j * 3 + i, none⟩ := by
    show (⟨g, 0, none⟩ : Addr).add (j * 3 + i) = _
    unfold Addr.add
    simp
    omega
  rw [e, blk_cell h, List.getElem?_toArray]
  have key : ∀ (l : List S50) (j : Nat), l[j]? = some p → (l.flatMap (fun r => [Value.int .i64 r.f0, .int .i64 r.f1, .string r.f2]))[j * 3 + i]? = [Value.int .i64 p.f0, .int .i64 p.f1, .string p.f2][i]? := by
    intro l
    induction l with
    | nil => intro j hj; simp at hj
    | cons x l ih =>
      intro j hj
      cases j with
      | zero =>
        have : x = p := by simpa using hj
        subst this
        rw [List.flatMap_cons, Nat.zero_mul, Nat.zero_add, List.getElem?_append_left (by simpa using hi)]
      | succ j =>
        rw [List.flatMap_cons, List.getElem?_append_right (by simp; omega)]
        rw [show (j + 1) * 3 + i - [Value.int .i64 x.f0, .int .i64 x.f1, .string x.f2].length = j * 3 + i by simp; omega]
        exact ih j (by simpa using hj)
  rw [key l j hj]
  exact hu
section
variable {P : Program} {ops : Array Oper} {Q : Exit → Act → World → Prop} {md : Region.Mode} {S : World → Prop}
end
/-- What awake holds behind its Run. -/
structure AwW (w wc : World) (v2 v3 v4 : Value) : Prop where
  e0 : v4 = .int .i64 0
  box : ∃ gb A c, v2 = .pointer (some ⟨gb, 0, none⟩) ∧ wc.heap[gb]? = some (.cells #[.int .i64 12, .int .i64 1, .int .i64 0, .int .i64 3, .slice A 1 c] 28 (0, 0))
  row : ∃ A c, v3 = .slice A 1 c ∧ k46.C wc A 1 (runP awG awZ awL).2.1
  bl : Below w.heap.size w wc
end Go.Proofs.Ytgipepjpkmlmaaa.P
namespace Go.Proofs.Ytgipepjpkmlmaaa.P
open Go.RowKit Go.Proofs.YtgipepjpkmlmaaaW.PrintWords Go.Proofs.YtgipepjpkmlmaaaW.PrintLast Go.Proofs.YtgipepjpkmlmaaaW.PrintMore
set_option linter.unusedVariables false
set_option linter.unusedSimpArgs false
/-- The sevens of a number, the lowest first. -/
def encI : Nat → Int → List Int
  | 0, u => [u]
  | f + 1, u => if u > 127 then (u % 128 + 128) :: encI f (u / 128) else [u]
def decI : List Int → Int
  | [] => 0
  | b :: t => b % 128 + 128 * decI t
theorem decI_nonneg : ∀ l, 0 ≤ decI l
  | [] => Int.le_refl _
  | b :: t => by have := decI_nonneg t; unfold decI; omega
theorem dec_enc : ∀ f u, 0 ≤ u → u < 128 ^ (f + 1) → decI (encI f u) = u
  | 0, u, h0, h1 => by simp [encI, decI]; omega
  | f + 1, u, h0, h1 => by
    unfold encI
    split
    · have := dec_enc f (u / 128) (by omega) (by rw [Int.pow_succ] at h1; omega)
      unfold decI
      omega
    · simp [decI]
      omega
theorem enc_ne : ∀ f u, encI f u ≠ []
  | 0, u => by simp [encI]
  | f + 1, u => by unfold encI; split <;> simp
theorem enc_last : ∀ f u, 1 ≤ u → ∀ h, (encI f u).getLast h ≠ 0
  | 0, u, h1, h => by simp [encI]; omega
  | f + 1, u, h1, h => by
    by_cases c : u > 127
    · have e : encI (f + 1) u = (u % 128 + 128) :: encI f (u / 128) := by rw [encI, if_pos c]
      have h2 := enc_last f (u / 128) (by omega) (enc_ne _ _)
      simp only [e]
      rw [List.getLast_cons (enc_ne _ _)]
      exact h2
    · have e : encI (f + 1) u = [u] := by rw [encI, if_neg c]
      simp only [e, List.getLast_singleton]
      omega
theorem dec_snoc : ∀ (l : List Int) (b : Int), decI (l ++ [b]) = decI l + 128 ^ l.length * (b % 128)
  | [], b => by simp [decI]
  | a :: t, b => by
    have := dec_snoc t b
    simp only [List.cons_append, decI, this, List.length_cons, Int.pow_succ]
    rw [Int.mul_add, Int.add_assoc, ← Int.mul_assoc, Int.mul_comm 128 (128 ^ t.length)]
theorem dec_lt : ∀ l : List Int, decI l < 128 ^ l.length
  | [] => by simp [decI]
  | a :: t => by
    have := dec_lt t
    unfold decI
    rw [List.length_cons, Int.pow_succ]
    omega
theorem enc_dec : ∀ (l : List Int) (b : Int) (f : Nat), (∀ x ∈ l, 128 ≤ x ∧ x ≤ 255) → 0 ≤ b → b < 128 → (l ≠ [] → b ≠ 0) → l.length ≤ f → encI f (decI (l ++ [b])) = l ++ [b]
  | [], b, f, hw, h0, h1, hc, hf => by
    have e : decI ([] ++ [b]) = b := by simp [decI]; omega
    rw [e]
    cases f with
    | zero => rfl
    | succ f => rw [encI, if_neg (by omega)]; rfl
  | a :: t, b, f, hw, h0, h1, hc, hf => by
    obtain ⟨f, rfl⟩ : ∃ g, f = g + 1 := ⟨f - 1, by simp at hf; omega⟩
    have ha := hw a (by simp)
    have ih := enc_dec t b f (fun x hx => hw x (by simp [hx])) h0 h1 (fun _ => hc (by simp)) (by simp at hf; omega)
    have hpos : 1 ≤ decI (t ++ [b]) := by
      rw [dec_snoc]
      have := decI_nonneg t
      have hb : 1 ≤ b % 128 := by have := hc (by simp); omega
      have hp : (0 : Int) < 128 ^ t.length := Int.pow_pos (by omega)
      have : (128 : Int) ^ t.length * 1 ≤ 128 ^ t.length * (b % 128) := Int.mul_le_mul_of_nonneg_left hb (by omega)
      omega
    have e : decI (a :: t ++ [b]) = a % 128 + 128 * decI (t ++ [b]) := rfl
    rw [e, encI, if_pos (by omega), show (a % 128 + 128 * decI (t ++ [b])) % 128 + 128 = a by omega, show (a % 128 + 128 * decI (t ++ [b])) / 128 = decI (t ++ [b]) by omega, ih]
    rfl
theorem enc_iff (l : List Int) (b : Int) (hw : ∀ x ∈ l, 128 ≤ x ∧ x ≤ 255) (h0 : 0 ≤ b) (h1 : b < 128) (hl : l.length ≤ 9) :
    encI 9 (decI (l ++ [b]) % 18446744073709551616) = l ++ [b] ↔ ¬((l ≠ [] ∧ b = 0) ∨ (l.length = 9 ∧ 1 < b)) := by
  have hn := decI_nonneg (l ++ [b])
  have hD : decI (l ++ [b]) < 18446744073709551616 ↔ ¬(l.length = 9 ∧ 1 < b) := by
    have h3 := dec_snoc l b
    have h4 := dec_lt l
    have h5 := decI_nonneg l
    constructor
    · rintro h ⟨h6, h7⟩
      rw [h6] at h3 h4
      omega
    · intro h
      by_cases h6 : l.length = 9
      · rw [h6] at h3 h4
        omega
      · have h7 := dec_lt (l ++ [b])
        have h9 : ∀ n : Fin 10, (128 : Int) ^ n.val ≤ 128 ^ 9 := by decide
        have h8 : (128 : Int) ^ (l ++ [b]).length ≤ 128 ^ 9 := h9 ⟨(l ++ [b]).length, by simp; omega⟩
        omega
  constructor
  · intro h
    have h2 := dec_enc 9 (decI (l ++ [b]) % 18446744073709551616) (by omega) (by omega)
    rw [h] at h2
    rintro (⟨h3, h4⟩ | h3)
    · have hu : 1 ≤ decI (l ++ [b]) := by
        cases l with
        | nil => exact absurd rfl h3
        | cons a t =>
          by_cases hz : decI (a :: t ++ [b]) = 0
          · rw [hz] at h
            simp [encI] at h
          · omega
      have h5 := enc_last 9 (decI (l ++ [b]) % 18446744073709551616) (by omega) (enc_ne _ _)
      apply h5
      simp only [h]
      rw [List.getLast_append_of_ne_nil _ (by simp)]
      exact h4
    · exact (hD.1 (by omega)) h3
  · intro h
    rw [Int.emod_eq_of_lt hn (hD.2 (fun h2 => h (.inr h2)))]
    exact enc_dec l b 9 hw h0 h1 (fun h2 h3 => h (.inl ⟨h2, h3⟩)) hl
theorem enc_range : ∀ f u, 0 ≤ u → u < 128 ^ (f + 1) → ∀ x ∈ encI f u, 0 ≤ x ∧ x < 256
  | 0, u, h0, h1, x, hx => by simp [encI] at hx; subst hx; omega
  | f + 1, u, h0, h1, x, hx => by
    unfold encI at hx
    split at hx
    · rcases List.mem_cons.1 hx with rfl | hx
      · omega
      · exact enc_range f (u / 128) (by omega) (by rw [Int.pow_succ] at h1; omega) x hx
    · simp at hx
      subst hx
      omega
/-- The first bytes of a text. -/
def bts (s : ByteArray) (n : Nat) : List Int := (List.range n).map (fun j : Nat => bt s (j : Int))
theorem bytes_iff (s : ByteArray) (L : List Int) (hL : ∀ x ∈ L, 0 ≤ x ∧ x < 256) (n : Nat) (hn : n ≤ s.size) : ((strOfNums L).toList = (s.extract 0 n).toList) ↔ L = bts s n := by
  have h1 : ((strOfNums L).toList).map (fun b : UInt8 => (b.toNat : Int)) = L := by
    rw [Lib.toList_data]
    unfold strOfNums
    simp only [List.map_map]
    conv => rhs; rw [← List.map_id L]
    refine List.map_congr_left (fun x hx => ?_)
    have := hL x hx
    simp only [Function.comp, id, UInt8.toNat_ofNat']
    omega
  have h2 : ((s.extract 0 n).toList).map (fun b : UInt8 => (b.toNat : Int)) = bts s n := by
    rw [Lib.toList_data, Lib.extract_data, List.drop_zero, Nat.sub_zero]
    apply List.ext_getElem
    · simp [bts]
      have : s.data.size = s.size := rfl
      omega
    · intro j h3 h4
      have hj : j < n := by simpa [bts] using h4
      have hjs : j < s.size := by omega
      simp [bts, bt, hjs]
      rfl
  constructor
  · intro h
    rw [← h1, h, h2]
  · intro h
    have h3 : ((strOfNums L).toList).map (fun b : UInt8 => (b.toNat : Int)) = ((s.extract 0 n).toList).map (fun b : UInt8 => (b.toNat : Int)) := by rw [h1, h2, h]
    exact List.map_inj_right (fun a b hab => UInt8.toNat_inj.1 (by omega)) |>.1 h3
theorem put_l0 : ∀ (f : Nat) (u : Int) (acc : List Int) (k : Nat), 0 ≤ u → u < 128 ^ (f + 1) → u < 18446744073709551616 → f < k → acc.length + f ≤ 1000 → headgateref01_Put.l0 k u acc = some (strOfNums (acc ++ encI f u))
  | 0, u, acc, k, h0, h1, h2, hk, ha => by
    obtain ⟨k, rfl⟩ : ∃ j, k = j + 1 := ⟨k - 1, by omega⟩
    rw [headgateref01_Put.l0, if_neg (by omega), if_pos (by omega)]
    simp only [encI]
    rw [show u % 256 = u by omega]
  | f + 1, u, acc, k, h0, h1, h2, hk, ha => by
    obtain ⟨k, rfl⟩ : ∃ j, k = j + 1 := ⟨k - 1, by omega⟩
    rw [headgateref01_Put.l0]
    unfold encI
    have e1 : Int.tdiv u 128 = u / 128 := Int.tdiv_eq_ediv_of_nonneg h0
    have e2 : Int.tmod u 128 = u % 128 := Int.tmod_eq_emod_of_nonneg h0
    by_cases c : u > 127
    · rw [if_pos c, if_pos c, if_pos (by omega), e1, e2, IntKind.wrap_u64, IntKind.wrap_u64, show (u % 128 + 128) % 18446744073709551616 % 256 = u % 128 + 128 by omega, show u / 128 % 18446744073709551616 = u / 128 by omega,
        put_l0 f (u / 128) _ k (by omega) (by rw [Int.pow_succ] at h1; omega) (by omega) (by omega) (by simp; omega)]
      simp
    · rw [if_neg c, if_neg c, if_pos (by omega), show u % 256 = u by omega]
/-- The number that bits say. -/
def numU (u : Int) : Int := if Int.tmod u 2 = 1 then wrap64 ((wrap64 (-(wrap64 (IntKind.u64.wrap (Int.tdiv u 2))))) - 1) else wrap64 (IntKind.u64.wrap (Int.tdiv u 2))
theorem put_num (u : Int) (k : Nat) (h0 : 0 ≤ u) (h1 : u < 18446744073709551616) (hk : 11 ≤ k) : headgateref01_Put.f k (numU u) = some (strOfNums (encI 9 u)) := by
  have e1 : Int.tdiv u 2 = u / 2 := Int.tdiv_eq_ediv_of_nonneg h0
  have e2 : Int.tmod u 2 = u % 2 := Int.tmod_eq_emod_of_nonneg h0
  obtain ⟨k, rfl⟩ : ∃ j, k = j + 1 := ⟨k - 1, by omega⟩
  have hj : ∀ x : Int, x = u → headgateref01_Put.j0 (k + 1) x = some (strOfNums (encI 9 u)) := by
    rintro x rfl
    rw [headgateref01_Put.j0, put_l0 9 x [] k h0 (by omega) h1 (by omega) (by simp)]
    rfl
  unfold numU headgateref01_Put.f
  rw [e1, e2]
  simp only [IntKind.wrap_u64]
  by_cases c : u % 2 = 1
  · rw [if_pos c]
    have hn : wrap64 (wrap64 (-wrap64 (u / 2 % 18446744073709551616)) - 1) = -(u / 2) - 1 := by unfold wrap64; omega
    rw [hn, if_pos (by omega)]
    exact hj _ (by unfold wrap64; omega)
  · rw [if_neg c]
    have hn : wrap64 (u / 2 % 18446744073709551616) = u / 2 := by unfold wrap64; omega
    rw [hn, if_neg (by omega)]
    exact hj _ (by omega)
end Go.Proofs.Ytgipepjpkmlmaaa.P
namespace Go.Proofs.Ytgipepjpkmlmaaa.P
open Go.RowKit Go.Proofs.YtgipepjpkmlmaaaW.PrintWords Go.Proofs.YtgipepjpkmlmaaaW.PrintLast Go.Proofs.YtgipepjpkmlmaaaW.PrintMore
set_option linter.unusedVariables false
set_option linter.unusedSimpArgs false
/-- The first byte below 128, of some. -/
def scanK (s : ByteArray) : Nat → Nat → Option Nat
  | 0, _ => none
  | f + 1, k => if k = s.size then none else if 128 ≤ bt s (k : Int) then scanK s f (k + 1) else some k
theorem scan_spec (s : ByteArray) : ∀ f k K, k ≤ s.size → scanK s f k = some K → k ≤ K ∧ K < k + f ∧ K < s.size ∧ bt s (K : Int) < 128 ∧ ∀ j, k ≤ j → j < K → 128 ≤ bt s (j : Int)
  | 0, k, K, hk, h => by simp [scanK] at h
  | f + 1, k, K, hk, h => by
    unfold scanK at h
    split at h
    · cases h
    · split at h
      · rename_i h1 h2
        obtain ⟨a, b, c, d, e⟩ := scan_spec s f (k + 1) K (by omega) h
        refine ⟨by omega, by omega, c, d, fun j h3 h4 => ?_⟩
        by_cases h5 : j = k
        · subst h5; exact h2
        · exact e j (by omega) h4
      · rename_i h1 h2
        cases h
        exact ⟨by omega, by omega, by omega, by omega, fun j h3 h4 => by omega⟩
def badK (s : ByteArray) (K : Nat) : Prop := (0 < K ∧ bt s (K : Int) = 0) ∨ (K = 9 ∧ 1 < bt s (K : Int))
theorem tk_none (s : ByteArray) : ∀ f k u, k + f = 10 → scanK s f k = none → (tkL s (f + 1) k u).2.2 = 2
  | 0, k, u, hk, h => by
    obtain rfl : k = 10 := by omega
    simp [tkL]
  | f + 1, k, u, hk, h => by
    unfold scanK at h
    rw [tkL]
    by_cases c : k = s.size
    · rw [if_pos (.inl c)]
    · rw [if_neg c] at h
      rw [if_neg (by omega)]
      by_cases d : 128 ≤ bt s (k : Int)
      · rw [if_pos d] at h ⊢
        exact tk_none s f (k + 1) _ (by omega) h
      · rw [if_neg d] at h
        cases h
theorem tk_some (s : ByteArray) : ∀ f k u K, k + f = 10 → scanK s f k = some K → (badK s K → (tkL s (f + 1) k u).2.2 = 2) ∧ (¬ badK s K → (tkL s (f + 1) k u).2.2 = 0 ∧ (tkL s (f + 1) k u).2.1 = s.extract (K + 1) s.size)
  | 0, k, u, K, hk, h => by simp [scanK] at h
  | f + 1, k, u, K, hk, h => by
    unfold scanK at h
    rw [tkL]
    by_cases c : k = s.size
    · rw [if_pos c] at h; cases h
    · rw [if_neg c] at h
      rw [if_neg (by omega)]
      by_cases d : 128 ≤ bt s (k : Int)
      · rw [if_pos d] at h ⊢
        exact tk_some s f (k + 1) _ K (by omega) h
      · rw [if_neg d] at h ⊢
        cases h
        constructor
        · intro hb; unfold badK at hb; rw [if_pos hb]
        · intro hb; unfold badK at hb; rw [if_neg hb]; exact ⟨rfl, rfl⟩
theorem rl_none (s : ByteArray) : ∀ f k M, k + f = 10 → k ≤ s.size → scanK s f k = none → headgateref01_Take.l0 (M + f + 3) s (k : Int) = some (0, ⟨#[]⟩, 2)
  | 0, k, M, hk, hs, h => by
    obtain rfl : k = 10 := by omega
    have hj : headgateref01_Take.j1 (M + 2) s ((10 : Nat) : Int) = some (0, ⟨#[]⟩, 2) := by
      rw [headgateref01_Take.j1]
      split
      · rw [headgateref01_Take.j2, if_pos rfl]
      · rw [headgateref01_Take.j2, if_pos (by rfl)]
    rw [show M + 0 + 3 = (M + 2) + 1 by omega, headgateref01_Take.l0]
    by_cases c : (((10 : Nat) : Int)) < (s.size : Int)
    · rw [if_pos c, if_neg (by omega), hj]
    · rw [if_neg c, hj]
  | f + 1, k, M, hk, hs, h => by
    unfold scanK at h
    by_cases c : k = s.size
    · rw [show M + (f + 1) + 3 = (M + f + 1 + 2) + 1 by omega, headgateref01_Take.l0, if_neg (by omega), headgateref01_Take.j1, if_pos (by omega), headgateref01_Take.j2, if_pos rfl]
    · rw [if_neg c] at h
      by_cases d : 128 ≤ bt s (k : Int)
      · rw [if_pos d] at h
        have hw : wrap64 ((k : Int) + 1) = ((k + 1 : Nat) : Int) := by unfold wrap64; omega
        rw [show M + (f + 1) + 3 = (M + f + 3) + 1 by omega, headgateref01_Take.l0, if_pos (by omega), if_pos (by omega), if_pos (by omega), if_pos (by omega), hw]
        exact rl_none s f (k + 1) M (by omega) (by omega) h
      · rw [if_neg d] at h
        cases h
theorem rl_some (s : ByteArray) : ∀ f k K M, k + f = 10 → k ≤ s.size → scanK s f k = some K → headgateref01_Take.l0 (M + (K - k) + 3) s (k : Int) = headgateref01_Take.l1 M s (K : Int) 0 (K : Int)
  | 0, k, K, M, hk, hs, h => by simp [scanK] at h
  | f + 1, k, K, M, hk, hs, h => by
    have hsp := scan_spec s (f + 1) k K hs h
    unfold scanK at h
    by_cases c : k = s.size
    · rw [if_pos c] at h; cases h
    · rw [if_neg c] at h
      by_cases d : 128 ≤ bt s (k : Int)
      · rw [if_pos d] at h
        have h2 := scan_spec s f (k + 1) K (by omega) h
        have hw : wrap64 ((k : Int) + 1) = ((k + 1 : Nat) : Int) := by unfold wrap64; omega
        rw [show M + (K - k) + 3 = (M + (K - (k + 1)) + 3) + 1 by omega, headgateref01_Take.l0, if_pos (by omega), if_pos (by omega), if_pos (by omega), if_pos (by omega), hw]
        exact rl_some s f (k + 1) K M (by omega) (by omega) h
      · rw [if_neg d] at h
        cases h
        rw [show M + (k - k) + 3 = (M + 1 + 1) + 1 by omega, headgateref01_Take.l0, if_pos (by omega), if_pos (by omega), if_pos (by omega), if_neg (by omega), headgateref01_Take.j1, if_neg (by omega), headgateref01_Take.j2, if_neg (by
          have : ((k : Int) == 10) = false := beq_eq_false_iff_ne.2 (by omega)
          rw [this]; decide)]
theorem bts_length (s : ByteArray) (n : Nat) : (bts s n).length = n := by simp [bts]
theorem bts_drop (s : ByteArray) (n j : Nat) (hj : j < n) : (bts s n).drop j = bt s (j : Int) :: (bts s n).drop (j + 1) := by
  rw [List.drop_eq_getElem_cons (by rw [bts_length]; exact hj)]
  simp [bts]
/-- What is answered of the bits. -/
def endT (s : ByteArray) (K : Nat) (U : Int) : Int × ByteArray × Int := if (strOfNums (encI 9 U)).toList = (s.extract 0 (K + 1)).toList then (numU U, s.extract (K + 1) s.size, 0) else (0, ⟨#[]⟩, 2)
theorem rl_end (s : ByteArray) (K M : Nat) (U : Int) (hK : K < s.size) (hK9 : K ≤ 9) (h0 : 0 ≤ U) (h1 : U < 18446744073709551616) (hM : 11 ≤ M) : headgateref01_Take.l1 (M + 1) s (K : Int) U (-1) = some (endT s K U) := by
  have hw : wrap64 ((K : Int) + 1) = ((K + 1 : Nat) : Int) := by unfold wrap64; omega
  have hp := put_num U M h0 h1 hM
  rw [headgateref01_Take.l1, if_neg (by omega), hw, Int.toNat_natCast]
  unfold numU at hp
  unfold endT numU
  by_cases c : Int.tmod U 2 = 1
  · rw [if_pos c] at hp
    rw [if_pos c, hp, Option.bind_some, if_pos (by omega), if_pos (by omega)]
    split <;> simp_all
  · rw [if_neg c] at hp
    rw [if_neg c, hp, Option.bind_some, if_pos (by omega), if_pos (by omega)]
    split <;> simp_all
theorem rl_l1 (s : ByteArray) (K : Nat) (hK : K < s.size) (hK9 : K ≤ 9) : ∀ (j : Nat) (M : Nat), j ≤ K + 1 → 11 ≤ M →
    headgateref01_Take.l1 (M + 1 + j) s (K : Int) (decI ((bts s (K + 1)).drop j) % 18446744073709551616) ((j : Int) - 1) = some (endT s K (decI (bts s (K + 1)) % 18446744073709551616))
  | 0, M, hj, hM => by
    rw [List.drop_zero]
    exact rl_end s K M _ hK hK9 (by omega) (by omega) hM
  | j + 1, M, hj, hM => by
    have ih := rl_l1 s K hK hK9 j M (by omega) hM
    have hb := bt_range s (j : Int)
    have e : (((j + 1 : Nat) : Int) - 1) = (j : Int) := by omega
    have hw : wrap64 ((j : Int) - 1) = (j : Int) - 1 := by unfold wrap64; omega
    rw [e, show M + 1 + (j + 1) = (M + 1 + j) + 1 by omega, headgateref01_Take.l1, if_pos (by omega), if_pos (by omega), if_pos (by omega), hw, IntKind.wrap_u64, IntKind.wrap_u64, IntKind.wrap_u64]
    have hd : decI ((bts s (K + 1)).drop j) = bt s (j : Int) % 128 + 128 * decI ((bts s (K + 1)).drop (j + 1)) := by rw [bts_drop s (K + 1) j (by omega)]; rfl
    have hm : Int.tmod (bt s (j : Int) % 18446744073709551616) 128 = bt s (j : Int) % 128 := by rw [Int.tmod_eq_emod_of_nonneg (by omega)]; omega
    rw [hm, show (decI ((bts s (K + 1)).drop (j + 1)) % 18446744073709551616 * 128 % 18446744073709551616 + bt s (j : Int) % 128) % 18446744073709551616 = decI ((bts s (K + 1)).drop j) % 18446744073709551616 by rw [hd]; omega]
    exact ih
theorem end_iff (s : ByteArray) (K : Nat) (hs : scanK s 10 0 = some K) : ((strOfNums (encI 9 (decI (bts s (K + 1)) % 18446744073709551616))).toList = (s.extract 0 (K + 1)).toList) ↔ ¬ badK s K := by
  obtain ⟨_, h2, h3, h4, h5⟩ := scan_spec s 10 0 K (by omega) hs
  rw [bytes_iff s _ (enc_range 9 _ (by omega) (by omega)) (K + 1) (by omega)]
  have hsn : bts s (K + 1) = bts s K ++ [bt s (K : Int)] := by simp [bts, List.range_succ]
  have hl : (bts s K).length = K := bts_length s K
  have hb := bt_range s (K : Int)
  have := enc_iff (bts s K) (bt s (K : Int)) (fun x hx => by
    simp only [bts, List.mem_map, List.mem_range] at hx
    obtain ⟨j, hj, rfl⟩ := hx
    exact ⟨h5 j (by omega) hj, (bt_range s (j : Int)).2⟩) hb.1 h4 (by omega)
  rw [hsn, this, hl]
  unfold badK
  constructor
  · intro h c
    refine h ?_
    rcases c with ⟨a, b⟩ | c
    · exact .inl ⟨fun e => by rw [e] at hl; simp at hl; omega, b⟩
    · exact .inr c
  · intro h c
    refine h ?_
    rcases c with ⟨a, b⟩ | c
    · refine .inl ⟨?_, b⟩
      cases K with
      | zero => exact absurd (List.eq_nil_of_length_eq_zero hl) a
      | succ n => omega
    · exact .inr c
end Go.Proofs.Ytgipepjpkmlmaaa.P
namespace Go.Proofs.Ytgipepjpkmlmaaa.P
open Go.RowKit Go.Proofs.YtgipepjpkmlmaaaW.PrintWords Go.Proofs.YtgipepjpkmlmaaaW.PrintLast Go.Proofs.YtgipepjpkmlmaaaW.PrintMore
set_option linter.unusedVariables false
set_option linter.unusedSimpArgs false
theorem wraps_u64 (n : Int) (h0 : 0 ≤ n) (h1 : n < 2 ^ 64) : IntKind.u64.wrap n = n := by rw [IntKind.wrap_u64]; omega
theorem tkOr_add (u b : Int) (k : Nat) (h0 : 0 ≤ u) (h1 : u < 128 ^ k) (b0 : 0 ≤ b) (b1 : b < 256) (hk : k ≤ 9) (hb : k = 9 → b % 128 ≤ 1) : tkOr u b k = u + b % 128 * 128 ^ k ∧ u + b % 128 * 128 ^ k < 18446744073709551616 ∧ u + b % 128 * 128 ^ k < 128 ^ (k + 1) := by
  have e7 : (2 : Int) ^ (7 * k) = 128 ^ k := by rw [Int.pow_mul]; rfl
  have hand : bits .and .u8 b 127 = b % 128 := bits_mask .u8 8 (by decide) wraps_u8 7 (by decide) b b0 b1
  have hm0 : 0 ≤ b % 128 := by omega
  have hm1 : b % 128 < 128 := by omega
  have hmul : b % 128 * 128 ^ k ≤ 127 * 128 ^ k := Int.mul_le_mul_of_nonneg_right (by omega) (Int.pow_nonneg (by omega))
  have hmul0 : 0 ≤ b % 128 * 128 ^ k := Int.mul_nonneg hm0 (Int.pow_nonneg (by omega))
  have hpow : (128 : Int) ^ (k + 1) = 128 * 128 ^ k := by rw [Int.pow_succ, Int.mul_comm]
  have hlt : u + b % 128 * 128 ^ k < 18446744073709551616 := by
    by_cases h9 : k = 9
    · subst h9
      have := hb rfl
      have e : (128 : Int) ^ 9 = 9223372036854775808 := by decide
      rw [e] at h1 ⊢
      omega
    · have hp : (128 : Int) ^ (k + 1) ≤ 128 ^ 9 := by
        have h := Nat.pow_le_pow_right (show 0 < 128 by decide) (show k + 1 ≤ 9 by omega)
        exact_mod_cast h
      have e : (128 : Int) ^ 9 = 9223372036854775808 := by decide
      rw [e, hpow] at hp
      omega
  refine ⟨?_, hlt, by rw [hpow]; omega⟩
  unfold tkOr
  rw [hand, wraps_u64 (b % 128) hm0 (by omega), e7, wraps_u64 _ hmul0 (by omega)]
  have hc : bits .or .u64 u (b % 128 * 128 ^ k) = bits .or .u64 (b % 128 * 128 ^ k) u := by
    unfold bits
    simp only [BitVec.or_comm]
  rw [hc]
  have := bits_join .u64 64 (by decide) wraps_u64 (7 * k) (b % 128 * 128 ^ k) u hmul0 (by rw [e7]; exact Int.mul_emod_left _ _) (by omega) h0 (by rw [e7]; exact h1) (by omega)
  rw [this]
  omega
theorem xor_zero (x : Int) (h0 : -9223372036854775808 ≤ x) (h1 : x ≤ 9223372036854775807) : bits .xor .i64 x 0 = x := by
  unfold bits
  have e : BitVec.ofInt IntKind.i64.bits 0 = 0#64 := by rfl
  simp only [e]
  show IntKind.i64.wrap (((BitVec.ofInt 64 x ^^^ 0#64).toNat : Nat) : Int) = x
  rw [BitVec.xor_zero, BitVec.toNat_ofInt, IntKind.wrap_i64]
  omega
theorem xor_ones (x : Int) (h0 : -9223372036854775808 ≤ x) (h1 : x ≤ 9223372036854775807) : bits .xor .i64 x (-1) = -x - 1 := by
  unfold bits
  have e : BitVec.ofInt IntKind.i64.bits (-1) = BitVec.allOnes 64 := by rfl
  simp only [e]
  show IntKind.i64.wrap (((BitVec.ofInt 64 x ^^^ BitVec.allOnes 64).toNat : Nat) : Int) = -x - 1
  rw [BitVec.xor_allOnes, BitVec.toNat_not, BitVec.toNat_ofInt, IntKind.wrap_i64]
  omega
theorem tkN_num (u : Int) (h0 : 0 ≤ u) (h1 : u < 18446744073709551616) : tkN u = numU u := by
  have hand : bits .and .u64 u 1 = u % 2 := bits_mask .u64 64 (by decide) wraps_u64 1 (by decide) u h0 h1
  have e1 : Int.tdiv u 2 = u / 2 := Int.tdiv_eq_ediv_of_nonneg h0
  have e2 : Int.tmod u 2 = u % 2 := Int.tmod_eq_emod_of_nonneg h0
  unfold tkN numU
  rw [hand, e1, e2, wraps_u64 (u / 2) (by omega) (by omega)]
  have w1 : wrap64 (u / 2) = u / 2 := by unfold wrap64; omega
  have w2 : wrap64 (u % 2) = u % 2 := by unfold wrap64; omega
  rw [w1, w2]
  by_cases c : u % 2 = 1
  · rw [if_pos c, c, show wrap64 (-1) = -1 by unfold wrap64; omega, xor_ones _ (by omega) (by omega)]
    unfold wrap64
    omega
  · rw [if_neg c, show u % 2 = 0 by omega, show wrap64 (-0) = 0 by unfold wrap64; omega, xor_zero _ (by omega) (by omega)]
theorem decI_take (s : ByteArray) : ∀ k, decI (bts s (k + 1)) = decI (bts s k) + bt s (k : Int) % 128 * 128 ^ k := by
  intro k
  have e : bts s (k + 1) = bts s k ++ [bt s (k : Int)] := by
    unfold bts
    rw [List.range_succ, List.map_append]
    rfl
  have hl : (bts s k).length = k := bts_length s k
  rw [e, dec_snoc, hl, Int.mul_comm]
theorem bt_range (s : ByteArray) (k : Int) : 0 ≤ bt s k ∧ bt s k < 256 := by
  unfold bt
  split
  · rename_i h
    have := UInt8.toNat_lt (s[k.toNat])
    omega
  · omega
theorem tk_val (s : ByteArray) : ∀ f k u K, k + f = 10 → scanK s f k = some K → ¬ badK s K → u = decI (bts s k) → (tkL s (f + 1) k u).1 = numU (decI (bts s (K + 1))) ∧ decI (bts s (K + 1)) < 18446744073709551616
  | 0, k, u, K, hk, h, _, _ => by simp [scanK] at h
  | f + 1, k, u, K, hk, h, hb, hu => by
    have hsp := scan_spec s (f + 1) k K
    unfold scanK at h
    rw [tkL]
    have hr := bt_range s (k : Int)
    have hul : u < 128 ^ k := by
      have := dec_lt (bts s k)
      rw [bts_length] at this
      rw [hu]
      exact this
    have hu0 : 0 ≤ u := by rw [hu]; exact decI_nonneg _
    by_cases c : k = s.size
    · rw [if_pos c] at h; cases h
    · rw [if_neg c] at h
      rw [if_neg (by omega)]
      by_cases d : 128 ≤ bt s (k : Int)
      · rw [if_pos d] at h ⊢
        have hkk : k ≠ 9 := by
          intro e
          have : f = 0 := by omega
          subst this
          simp [scanK] at h
        have ho := tkOr_add u (bt s (k : Int)) k hu0 hul hr.1 hr.2 (by omega) (fun e => absurd e hkk)
        refine tk_val s f (k + 1) _ K (by omega) h hb ?_
        rw [ho.1, decI_take, hu]
      · rw [if_neg d] at h ⊢
        cases h
        have hb' := hb
        unfold badK at hb
        rw [if_neg hb]
        have ho := tkOr_add u (bt s (k : Int)) k hu0 hul hr.1 hr.2 (by omega) (fun e => by subst e; omega)
        have e : tkOr u (bt s (k : Int)) k = decI (bts s (k + 1)) := by rw [ho.1, decI_take, hu]
        have hlt : decI (bts s (k + 1)) < 18446744073709551616 := by rw [← e, ho.1]; exact ho.2.1
        exact ⟨by show tkN (tkOr u (bt s (k : Int)) k) = _; rw [e]; exact tkN_num _ (decI_nonneg _) hlt, hlt⟩
theorem numU_range (u : Int) : -9223372036854775808 ≤ numU u ∧ numU u ≤ 9223372036854775807 := by
  unfold numU
  split <;> (unfold wrap64; omega)
end Go.Proofs.Ytgipepjpkmlmaaa.P
namespace Go.Proofs.Ytgipepjpkmlmaaa.P
open Go.RowKit Go.Proofs.YtgipepjpkmlmaaaW.PrintWords Go.Proofs.YtgipepjpkmlmaaaW.PrintLast Go.Proofs.YtgipepjpkmlmaaaW.PrintMore
set_option linter.unusedVariables false
set_option linter.unusedSimpArgs false
theorem enc_shape : ∀ (f : Nat) (u : Int), 0 ≤ u → u < 128 ^ (f + 1) → ∃ pre b, encI f u = pre ++ [b] ∧ (∀ x ∈ pre, 128 ≤ x ∧ x ≤ 255) ∧ 0 ≤ b ∧ b < 128 ∧ pre.length ≤ f
  | 0, u, h0, h1 => ⟨[], u, rfl, fun x h => absurd h List.not_mem_nil, h0, by simpa using h1, Nat.le_refl _⟩
  | f + 1, u, h0, h1 => by
    rw [encI]
    by_cases c : u > 127
    · rw [if_pos c]
      have hp : (128 : Int) ^ (f + 1 + 1) = 128 ^ (f + 1) * 128 := Int.pow_succ _ _
      obtain ⟨pre, b, e, h2, h3, h4, h5⟩ := enc_shape f (u / 128) (by omega) (Int.ediv_lt_of_lt_mul (by omega) (by rw [← hp]; exact h1))
      refine ⟨(u % 128 + 128) :: pre, b, by rw [e]; rfl, fun x hx => ?_, h3, h4, by rw [List.length_cons]; omega⟩
      rcases List.mem_cons.1 hx with rfl | hx
      · omega
      · exact h2 x hx
    · rw [if_neg c]
      exact ⟨[], u, rfl, fun x h => absurd h List.not_mem_nil, h0, by omega, Nat.zero_le _⟩
theorem scan_of (s : ByteArray) (K : Nat) (h1 : K < s.size) (h2 : bt s (K : Int) < 128) (h3 : ∀ j, j < K → 128 ≤ bt s (j : Int)) : ∀ f k, k ≤ K → K < k + f → scanK s f k = some K
  | 0, k, _, h => by omega
  | f + 1, k, hk, h => by
    rw [scanK, if_neg (by omega)]
    by_cases e : k = K
    · subst e
      rw [if_neg (by omega)]
    · rw [if_pos (h3 k (by omega))]
      exact scan_of s K h1 h2 h3 f (k + 1) (by omega) (by omega)
theorem val_enc (u : Int) (h0 : 0 ≤ u) (h1 : u < 18446744073709551616) : valP (strOfNums (encI 9 u)) = (numU u, true) := by
  have h128 : u < 128 ^ (9 + 1) := by
    have e : (128 : Int) ^ (9 + 1) = 1180591620717411303424 := by decide
    omega
  obtain ⟨pre, b, e, hp, b0, b1, hl⟩ := enc_shape 9 u h0 h128
  obtain ⟨s, hs⟩ : ∃ s, strOfNums (encI 9 u) = s := ⟨_, rfl⟩
  have hb : encI 9 u = bts s s.size := by
    have h := (bytes_iff s (encI 9 u) (enc_range 9 u h0 h128) s.size (Nat.le_refl _)).1
    refine h ?_
    rw [hs, ByteArray.extract_zero_size]
  have hsz : s.size = pre.length + 1 := by
    have := congrArg List.length hb
    rw [e, bts_length, List.length_append, List.length_singleton] at this
    exact this.symm
  have hbt : ∀ j (hj : j < s.size), bt s (j : Int) = (pre ++ [b])[j]'(by rw [List.length_append, List.length_singleton, ← hsz]; exact hj) := by
    intro j hj
    have h : (pre ++ [b])[j]? = (bts s s.size)[j]? := by rw [← e, hb]
    rw [List.getElem?_eq_getElem (by rw [List.length_append, List.length_singleton, ← hsz]; exact hj)] at h
    unfold bts at h
    rw [List.getElem?_map, List.getElem?_range hj] at h
    exact (Option.some.inj h).symm
  have hsc : scanK s 10 0 = some pre.length := by
    refine scan_of s pre.length (by omega) ?_ (fun j hj => ?_) 10 0 (Nat.zero_le _) (by omega)
    · rw [hbt _ (by omega), List.getElem_append_right (Nat.le_refl _)]
      simp only [Nat.sub_self, List.getElem_singleton]
      exact b1
    · rw [hbt _ (by omega), List.getElem_append_left hj]
      exact (hp _ (List.getElem_mem hj)).1
  have hdec : decI (bts s (pre.length + 1)) = u := by
    rw [← hsz, ← hb]
    exact dec_enc 9 u h0 h128
  have hnb : ¬ badK s pre.length := by
    refine (end_iff s pre.length hsc).1 ?_
    rw [hdec, Int.emod_eq_of_lt h0 h1, hs, ← hsz, ByteArray.extract_zero_size]
  obtain ⟨v1, _⟩ := tk_val s 10 0 0 pre.length (by omega) hsc hnb rfl
  obtain ⟨e1, e2⟩ := (tk_some s 10 0 0 pre.length (by omega) hsc).2 hnb
  rw [hs]
  unfold valP
  rw [v1, e1, e2, hdec, ← hsz]
  congr 1
  simp
/-- A number's text is a number, and the same. -/
theorem put_val (v : Int) (h0 : -9223372036854775808 ≤ v) (h1 : v ≤ 9223372036854775807) : ∃ s, headgateref01_Put.f 11 v = some s ∧ valP s = (v, true) ∧ s.size ≤ 10 := by
  obtain ⟨u, hu0, hu1, hu⟩ : ∃ u : Int, 0 ≤ u ∧ u < 18446744073709551616 ∧ numU u = v := by
    by_cases c : 0 ≤ v
    · refine ⟨2 * v, by omega, by omega, ?_⟩
      unfold numU
      rw [Int.tdiv_eq_ediv_of_nonneg (by omega), Int.tmod_eq_emod_of_nonneg (by omega), if_neg (by omega), wraps_u64 _ (by omega) (by omega)]
      unfold wrap64
      omega
    · refine ⟨-2 * v - 1, by omega, by omega, ?_⟩
      unfold numU
      rw [Int.tdiv_eq_ediv_of_nonneg (by omega), Int.tmod_eq_emod_of_nonneg (by omega), if_pos (by omega), wraps_u64 _ (by omega) (by omega)]
      unfold wrap64
      omega
  refine ⟨strOfNums (encI 9 u), ?_, ?_, ?_⟩
  · rw [← hu]
    exact put_num u 11 hu0 hu1 (Nat.le_refl _)
  · rw [val_enc u hu0 hu1, hu]
  · have h128 : u < 128 ^ (9 + 1) := by
      have e : (128 : Int) ^ (9 + 1) = 1180591620717411303424 := by decide
      omega
    obtain ⟨pre, b, e, _, _, _, hl⟩ := enc_shape 9 u hu0 h128
    rw [e]
    unfold strOfNums
    simp [ByteArray.size]
    omega
end Go.Proofs.Ytgipepjpkmlmaaa.P
namespace Go.Proofs.Ytgipepjpkmlmaaa.P
open Go.RowKit Go.Proofs.YtgipepjpkmlmaaaW.PrintWords Go.Proofs.YtgipepjpkmlmaaaW.PrintLast Go.Proofs.YtgipepjpkmlmaaaW.PrintMore
set_option linter.unusedVariables false
set_option linter.unusedSimpArgs false
/-- A number, folded to one that is not below nothing. -/
def foldU (v : Int) : Int := if 0 ≤ v then 2 * v else -2 * v - 1
theorem foldU_range (v : Int) (h0 : -9223372036854775808 ≤ v) (h1 : v ≤ 9223372036854775807) : 0 ≤ foldU v ∧ foldU v < 18446744073709551616 := by unfold foldU; split <;> omega
theorem numU_fold (v : Int) (h0 : -9223372036854775808 ≤ v) (h1 : v ≤ 9223372036854775807) : numU (foldU v) = v := by
  unfold foldU
  by_cases c : 0 ≤ v
  · rw [if_pos c]
    unfold numU
    rw [Int.tdiv_eq_ediv_of_nonneg (by omega), Int.tmod_eq_emod_of_nonneg (by omega), if_neg (by omega), wraps_u64 _ (by omega) (by omega)]
    unfold wrap64
    omega
  · rw [if_neg c]
    unfold numU
    rw [Int.tdiv_eq_ediv_of_nonneg (by omega), Int.tmod_eq_emod_of_nonneg (by omega), if_pos (by omega), wraps_u64 _ (by omega) (by omega)]
    unfold wrap64
    omega
/-- A number's bytes, as a text. -/
def numT (v : Int) : ByteArray := strOfNums (encI 9 (foldU v))
theorem numT_ref (v : Int) (h0 : -9223372036854775808 ≤ v) (h1 : v ≤ 9223372036854775807) : headgateref01_Put.f 11 v = some (numT v) := by
  have hr := foldU_range v h0 h1
  have h := put_num (foldU v) 11 hr.1 hr.2 (Nat.le_refl _)
  rw [numU_fold v h0 h1] at h
  exact h
theorem numT_size (v : Int) (h0 : -9223372036854775808 ≤ v) (h1 : v ≤ 9223372036854775807) : (numT v).size ≤ 10 := by
  obtain ⟨s, h2, _, h3⟩ := put_val v h0 h1
  rw [numT_ref v h0 h1] at h2
  injection h2 with h2
  rw [h2]
  exact h3
def u8s (l : List Int) : List Value := l.map (Value.int .u8)
theorem or128 (x : Int) (h0 : 0 ≤ x) (h1 : x ≤ 255) : bits .or .u8 x 128 = x % 128 + 128 := by
  obtain ⟨n, rfl⟩ := Int.eq_ofNat_of_zero_le h0
  have h : ∀ n : Fin 256, bits .or .u8 ((n.val : Nat) : Int) 128 = ((n.val : Nat) : Int) % 128 + 128 := by decide +kernel
  exact h ⟨n, by omega⟩
theorem xor_ones64 (x : Int) (h0 : 0 ≤ x) (h1 : x < 18446744073709551616) : bits .xor .u64 x 18446744073709551615 = 18446744073709551615 - x := by
  unfold bits
  have e : BitVec.ofInt IntKind.u64.bits 18446744073709551615 = BitVec.allOnes 64 := by rfl
  simp only [e]
  show IntKind.u64.wrap (((BitVec.ofInt 64 x ^^^ BitVec.allOnes 64).toNat : Nat) : Int) = _
  rw [BitVec.xor_allOnes, BitVec.toNat_not, BitVec.toNat_ofInt, wraps_u64 _ (by omega) (by omega)]
  omega
theorem xor_none64 (x : Int) (h0 : 0 ≤ x) (h1 : x < 18446744073709551616) : bits .xor .u64 x 0 = x := by
  unfold bits
  have e : BitVec.ofInt IntKind.u64.bits 0 = 0#64 := by rfl
  simp only [e]
  show IntKind.u64.wrap (((BitVec.ofInt 64 x ^^^ 0#64).toNat : Nat) : Int) = x
  rw [BitVec.xor_zero, BitVec.toNat_ofInt, wraps_u64 _ (by omega) (by omega)]
  omega
theorem fold_code (v : Int) (h0 : -9223372036854775808 ≤ v) (h1 : v ≤ 9223372036854775807) : bits .xor .u64 (IntKind.u64.wrap (IntKind.u64.wrap v * 2)) (IntKind.u64.wrap (v / 9223372036854775808)) = foldU v := by
  have hw : ∀ x : Int, IntKind.u64.wrap x = x % 18446744073709551616 := fun x => rfl
  unfold foldU
  by_cases c : 0 ≤ v
  · rw [if_pos c, hw (v / 9223372036854775808), show v / 9223372036854775808 % 18446744073709551616 = 0 by omega, hw, hw, xor_none64 _ (by omega) (by omega)]
    omega
  · rw [if_neg c, hw (v / 9223372036854775808), show v / 9223372036854775808 % 18446744073709551616 = 18446744073709551615 by omega, hw, hw, xor_ones64 _ (by omega) (by omega)]
    omega
theorem pre_cell (a b : List Value) (x : Value) (n : Nat) (h : a.length = n) : (a ++ x :: b).toArray[n]? = some x := by
  subst h
  simp
set_option maxHeartbeats 4000000 in
set_option maxRecDepth 100000 in
theorem put_calls (v : Int) (h0 : -9223372036854775808 ≤ v) (h1 : v ≤ 9223372036854775807) (w : World) :
    Calls Try.prog 89 #[.int .i64 v] w fun e w' => e = .returned (.string (numT v)) ∧ Below w.heap.size w w' := by
  have hr := foldU_range v h0 h1
  obtain ⟨W0, hW0⟩ : ∃ W, W = w.alloc (.cells #[.int .u8 0, .int .u8 0, .int .u8 0, .int .u8 0, .int .u8 0, .int .u8 0, .int .u8 0, .int .u8 0, .int .u8 0, .int .u8 0] 146) := ⟨_, rfl⟩
  have hb0 : W0.heap[w.heap.size]? = some (.cells #[.int .u8 0, .int .u8 0, .int .u8 0, .int .u8 0, .int .u8 0, .int .u8 0, .int .u8 0, .int .u8 0, .int .u8 0, .int .u8 0] 146 (0, 0)) := by rw [hW0]; exact heap_alloc_new _ _
  have hbw0 : Below w.heap.size w W0 := by rw [hW0]; exact (Below.refl _ _).alloc (Nat.le_refl _) _
  have hfc := fold_code v h0 h1
  have hzr : ∀ n, n ≤ 9 → (List.replicate (10 - n) (Value.int .u8 0)) = .int .u8 0 :: List.replicate (9 - n) (Value.int .u8 0) := fun n hn => by rw [show 10 - n = (9 - n) + 1 by omega]; rfl
  have HW0 := Lib.hid hW0
  have HB0 := Lib.hid hb0
  have HBW := Lib.hid hbw0
  have HR := Lib.hid hr
  clear hW0 hb0 hbw0 hr
  go_enter Try.func89, Try.ntmps89
  go_upto_block 0 with fail
  rw [← HW0.out]
  go_wp2
  go_loopg [3, 5] 10 (fun kq v3 v5 WX => ∃ (k : Nat) (u : Int) (pre : List Int), v5 = .int .i64 (k : Int) ∧ v3 = .int .u64 u ∧ k ≤ 9 ∧ 10 - k ≤ kq ∧ pre.length = k ∧ pre ++ encI (9 - k) u = encI 9 (foldU v) ∧ 0 ≤ u ∧ u < 128 ^ (10 - k) ∧ u < 18446744073709551616 ∧ WX.heap[w.heap.size]? = some (.cells (u8s pre ++ List.replicate (10 - k) (Value.int .u8 0)).toArray 146 (0, 0)) ∧ Below w.heap.size w WX)
  case atStart =>
    refine ⟨0, foldU v, [], rfl, rfl, by omega, by omega, rfl, rfl, HR.out.1, ?_, HR.out.2, HB0.out, HBW.out⟩
    have e : (128 : Int) ^ (10 - 0) = 1180591620717411303424 := by decide
    have := HR.out.2
    omega
  case round =>
    obtain ⟨k, u, pre, rfl, rfl, hk, hkk, hpl, hen, hu0, hu1, hu2, hbk, hbr⟩ := hrel
    rw [hzr k hk] at hbk
    have hpl2 : (u8s pre).length = k := by unfold u8s; rw [List.length_map]; exact hpl
    have hc : wr.cell? ⟨w.heap.size, k, none⟩ = some (.int .u8 0) := (blk_cell hbk k).trans (pre_cell _ _ _ _ hpl2)
    have hfz : wr.frozen? ⟨w.heap.size, k, none⟩ = false := blk_frozen hbk k
    have hbi : (0 : Int) ≤ (k : Int) ∧ (k : Int) < 10 := by omega
    have hset := fun y => blk_put hbk k y (cs' := (u8s pre ++ y :: List.replicate (9 - k) (Value.int .u8 0)).toArray) (by rw [← hpl2]; simp)
    have HSET := Lib.hid hset
    have HBR := Lib.hid hbr
    have HEN := Lib.hid hen
    have HPL := Lib.hid hpl
    have hw8 : IntKind.u8.wrap u = u % 256 := by rfl
    by_cases hlt : 128 ≤ u
    · have hk8 : k ≤ 8 := by
        by_cases h9 : k = 9
        · subst h9
          have e : (128 : Int) ^ (10 - 9) = 128 := by decide
          omega
        · omega
      have d : decide (128 ≤ u) = true := decide_eq_true hlt
      have ho : bits .or .u8 (u % 256) 128 = u % 128 + 128 := by rw [or128 _ (by omega) (by omega)]; omega
      have ht : Int.tdiv u 128 = u / 128 := Int.tdiv_eq_ediv_of_nonneg hu0
      have hwk : IntKind.i64.wrap ((k : Int) + 1) = (k : Int) + 1 := by rw [IntKind.wrap_i64]; omega
      have hw5 : IntKind.u64.wrap (u / 128) = u / 128 := wraps_u64 _ (by omega) (by omega)
      cases gk with
      | zero => omega
      | succ gk =>
      clear hbk hset hbr hen hpl
      go_wp2
      go_roundg gk
      case measure => omega
      case rel =>
        refine ⟨k + 1, u / 128, pre ++ [u % 128 + 128], by first | rfl | (congr 1), rfl, by omega, by omega, by rw [List.length_append, HPL.out]; rfl, ?_, by omega, ?_, by omega, ?_, HBR.out.setCell (Nat.le_refl _) _⟩
        · rw [← HEN.out, show 9 - k = (9 - (k + 1)) + 1 by omega, encI, if_pos (by omega), List.append_assoc]
          rfl
        · refine Int.ediv_lt_of_lt_mul (by omega) ?_
          have e := Int.pow_succ 128 (10 - (k + 1))
          rw [show (10 - (k + 1)).succ = 10 - k by omega] at e
          rw [← e]
          exact hu1
        · rw [HSET.out, show 10 - (k + 1) = 9 - k by omega]
          simp [u8s]
    · have d : decide (128 ≤ u) = false := decide_eq_false hlt
      have hsl : ∀ w2 : World, (Instr.sliceAt 146 (.pointer (some ⟨w.heap.size, 0, none⟩)) none (some (.int .i64 ((k : Int) + 1))) none).run Try.prog w2 = .ok (.slice (some ⟨w.heap.size, 0, none⟩) (k + 1) 10) w2 := by
        intro w2
        have hl : Try.prog.arrayLen 146 = 10 := by kernel_rfl
        rw [run_sliceAt_array_h w2 146 _ (by kernel_rfl) .i64 ((k : Int) + 1) (by omega) (by rw [hl]; omega), hl]
        have hz : (sizeOf (Try.prog.elem 146)).run Try.prog w2 = .ok 1 w2 := by kernel_rfl
        rw [hz]
        unfold slicedAt
        simp [Addr.add]
      have hex : encI 9 (foldU v) = pre ++ [u] := by
        rw [← hen]
        congr 1
        cases hq : 9 - k with
        | zero => rfl
        | succ f => rw [encI, if_neg (by omega)]
      have hcv : (convert 125 9 (.slice (some ⟨w.heap.size, 0, none⟩) (k + 1) 10)).run Try.prog (wr.setCell ⟨w.heap.size, k, none⟩ (.int .u8 (u % 256))) = .ok (.string (numT v)) (wr.setCell ⟨w.heap.size, k, none⟩ (.int .u8 (u % 256))) := by
        unfold numT
        rw [hex]
        refine run_convert_bytes_arg _ 125 5 Try.underlying125 Try.underlying5 w.heap.size 0 (k + 1) 10 (pre ++ [u]) (by rw [List.length_append, hpl]; rfl) (fun i hi => ?_) 9 Try.underlying9
        rw [Nat.zero_add, blk_cell (hset _) i, show u % 256 = u by omega]
        have e : u8s pre ++ Value.int .u8 u :: List.replicate (9 - k) (Value.int .u8 0) = u8s (pre ++ [u]) ++ List.replicate (9 - k) (Value.int .u8 0) := by simp [u8s]
        rw [e]
        have hl : i < (pre ++ [u]).length := by rw [List.length_append, hpl]; exact hi
        simp only [List.getElem?_toArray]
        rw [List.getElem?_append_left (by unfold u8s; rw [List.length_map]; exact hl)]
        unfold u8s
        rw [List.getElem?_map, List.getElem?_eq_getElem hl, List.getD_eq_getElem?_getD, List.getElem?_eq_getElem hl]
        rfl
      have hwk : IntKind.i64.wrap ((k : Int) + 1) = (k : Int) + 1 := by rw [IntKind.wrap_i64]; omega
      clear hbk hset hbr hen hpl hex
      go_wp2
      go_ret
      exact ⟨rfl, HBR.out.setCell (Nat.le_refl _) _⟩
end Go.Proofs.Ytgipepjpkmlmaaa.P
namespace Go.Proofs.Ytgipepjpkmlmaaa.P
set_option linter.unusedVariables false
set_option linter.unusedSimpArgs false
section
open Go.RowKit Go.Proofs.YtgipepjpkmlmaaaW.PrintWords Go.Proofs.YtgipepjpkmlmaaaW.PrintLast Go.Proofs.YtgipepjpkmlmaaaW.PrintMore
/-- One window stands ahead of another one. -/
def ltC (x y : S46) : Prop := x.f1 < y.f1 ∨ (x.f1 = y.f1 ∧ x.f0 < y.f0)
theorem ltC_trans {x y z : S46} (h : ltC x y) (k : ltC y z) : ltC x z := by unfold ltC at *; omega
theorem ordP_lt (x y : S46) : ordP x y < 0 ↔ ltC x y := by
  unfold ordP cmpP ltC
  split <;> split <;> (try split) <;> (try split) <;> omega
theorem ordP_eq (x y : S46) : ordP x y = 0 ↔ x.f1 = y.f1 ∧ x.f0 = y.f0 := by
  unfold ordP cmpP
  split <;> split <;> (try split) <;> (try split) <;> omega
/-- Rows of windows in order. -/
def srt (l : List S46) : Prop := ∀ i j : Nat, i < j → j < l.length → ltC (rd_T46 l (i : Int)) (rd_T46 l (j : Int))
theorem bsL_spec (l : List S46) (t : S46) (hs : srt l) : ∀ f i j, j - i < f → i ≤ j → j ≤ l.length → (∀ m, m < i → ltC (rd_T46 l (m : Int)) t) → (∀ m, j ≤ m → m < l.length → ¬ ltC (rd_T46 l (m : Int)) t) →
    (∀ m, m < bsL l t f i j → ltC (rd_T46 l (m : Int)) t) ∧ (∀ m, bsL l t f i j ≤ m → m < l.length → ¬ ltC (rd_T46 l (m : Int)) t) := by
  intro f
  induction f with
  | zero => intro i j h; omega
  | succ f ih =>
    intro i j hf hij hjl hlo hhi
    rw [bsL]
    by_cases c : i < j
    · rw [if_pos c]
      by_cases d : ordP (rd_T46 l (((i + j) / 2 : Nat) : Int)) t < 0
      · rw [if_pos d]
        have d2 := (ordP_lt _ _).1 d
        refine ih _ _ (by omega) (by omega) hjl (fun m hm => ?_) hhi
        by_cases e : m = (i + j) / 2
        · rw [e]; exact d2
        · exact ltC_trans (hs m ((i + j) / 2) (by omega) (by omega)) d2
      · rw [if_neg d]
        have d2 : ¬ ltC (rd_T46 l (((i + j) / 2 : Nat) : Int)) t := fun h => d ((ordP_lt _ _).2 h)
        refine ih _ _ (by omega) (by omega) (by omega) hlo (fun m hm hml h => ?_)
        by_cases e : m = (i + j) / 2
        · rw [e] at h; exact d2 h
        · exact d2 (ltC_trans (hs ((i + j) / 2) m (by omega) hml) h)
    · rw [if_neg c]
      exact ⟨hlo, fun m hm hml => hhi m (by omega) hml⟩
theorem bsI_spec (l : List S46) (t : S46) (hs : srt l) : (∀ m, m < bsI l t → ltC (rd_T46 l (m : Int)) t) ∧ (∀ m, bsI l t ≤ m → m < l.length → ¬ ltC (rd_T46 l (m : Int)) t) :=
  bsL_spec l t hs (l.length + 1) 0 l.length (by omega) (by omega) (by omega) (fun m h => by omega) (fun m h h2 => by omega)
theorem rd_get (l : List S46) (i : Nat) (h : i < l.length) : rd_T46 l (i : Int) = l[i] := rd46 l i h
/-- The key and the beginning of a window. -/
def keyC (c : S46) : Int × Int := (c.f0, c.f1)
theorem srt_iff (l : List S46) : srt l ↔ l.Pairwise ltC := by
  rw [List.pairwise_iff_getElem]
  constructor
  · intro h i j hi hj hij
    have := h i j hij hj
    rwa [rd_get l i hi, rd_get l j hj] at this
  · intro h i j hij hj
    rw [rd_get l i (by omega), rd_get l j hj]
    exact h i j (by omega) hj hij
/-- One window's place in a row in order: it is found, or it may stand there. -/
theorem place (l : List S46) (x : S46) (hs : srt l) : (bsF l x = true → bsI l x < l.length ∧ keyC (rd_T46 l (bsI l x : Int)) = keyC x) ∧
    (bsF l x = false → (l.take (bsI l x) ++ x :: l.drop (bsI l x)).Pairwise ltC) := by
  obtain ⟨h1, h2⟩ := bsI_spec l x hs
  have hp := (srt_iff l).1 hs
  constructor
  · intro hf
    unfold bsF at hf
    simp only [Bool.and_eq_true, decide_eq_true_eq, beq_iff_eq] at hf
    obtain ⟨a, b⟩ := (ordP_eq _ _).1 hf.2
    exact ⟨hf.1, by unfold keyC; rw [a, b]⟩
  · intro hf
    have hlt : ∀ y ∈ l.take (bsI l x), ltC y x := by
      intro y hy
      obtain ⟨i, hi, rfl⟩ := List.getElem_of_mem hy
      rw [List.length_take] at hi
      have := h1 i (by omega)
      rw [rd_get l i (by omega)] at this
      rw [List.getElem_take]
      exact this
    have hgt : ∀ y ∈ l.drop (bsI l x), ltC x y := by
      intro y hy
      obtain ⟨i, hi, rfl⟩ := List.getElem_of_mem hy
      rw [List.length_drop] at hi
      rw [List.getElem_drop]
      have hR : bsI l x < l.length := by omega
      have hne : ¬ ordP (rd_T46 l (bsI l x : Int)) x = 0 := by
        intro e
        unfold bsF at hf
        rw [decide_eq_true hR, e] at hf
        cases hf
      have hge := h2 (bsI l x) (Nat.le_refl _) hR
      rw [← ordP_lt] at hge
      have hx : ltC x (rd_T46 l (bsI l x : Int)) := by
        have q1 : ¬ ltC (rd_T46 l (bsI l x : Int)) x := fun h => hge ((ordP_lt _ _).2 h)
        have q2 : ¬ ((rd_T46 l (bsI l x : Int)).f1 = x.f1 ∧ (rd_T46 l (bsI l x : Int)).f0 = x.f0) := fun h => hne ((ordP_eq _ _).2 h)
        unfold ltC at *
        omega
      by_cases e : i = 0
      · subst e
        rw [rd_get l _ hR] at hx
        exact hx
      · have := hs (bsI l x) (bsI l x + i) (by omega) (by omega)
        rw [rd_get l (bsI l x + i) (by omega)] at this
        exact ltC_trans hx this
    rw [List.pairwise_append]
    refine ⟨hp.sublist (List.take_sublist _ _), List.pairwise_cons.2 ⟨hgt, hp.sublist (List.drop_sublist _ _)⟩, fun a ha b hb => ?_⟩
    rcases List.mem_cons.1 hb with rfl | hb
    · exact hlt a ha
    · exact ltC_trans (hlt a ha) (hgt b hb)
end
section
open Go.RowKit Go.Proofs.YtgipepjpkmlmaaaW.PrintWords Go.Proofs.YtgipepjpkmlmaaaW.PrintLast Go.Proofs.YtgipepjpkmlmaaaW.PrintMore
/-- What numbers come to, if they are not too many. -/
structure aggW (a : S44) : Prop where
  c0 : 0 ≤ a.f0
  c1 : a.f0 ≤ 1000000000
  h0 : 0 ≤ a.f4.f0
  h1 : 0 ≤ a.f4.f1
  h2 : 0 ≤ a.f4.f2
  h3 : 0 ≤ a.f4.f3
  sum : a.f4.f0 + a.f4.f1 + a.f4.f2 + a.f4.f3 = a.f0
  pp : a.f5 + a.f6 ≤ a.f0
  pm : a.f5 - a.f6 ≤ a.f0
  mp : -a.f5 + a.f6 ≤ a.f0
  mm : -a.f5 - a.f6 ≤ a.f0
  lo : a.f0 = 0 ∨ a.f2 ≤ a.f3
end
section
open Go.RowKit Go.Proofs.YtgipepjpkmlmaaaW.PrintWords Go.Proofs.YtgipepjpkmlmaaaW.PrintLast Go.Proofs.YtgipepjpkmlmaaaW.PrintMore
/-- What a window must be. -/
structure WinOk (g : S23) (m n : Int) (c : S46) : Prop where
  k0 : 0 ≤ c.f0
  k1 : c.f0 ≤ 1048576
  s0 : 0 ≤ c.f1
  s1 : c.f1 ≤ 1099511627776
  hop : Int.tmod c.f1 g.f1 = 0
  le : c.f1 ≤ m
  agg : aggW c.f2
  one : 1 ≤ c.f2.f0
  cnt : c.f2.f0 ≤ n
/-- What a state must be that comes of records from nothing on. -/
structure Inv (g : S23) (s : S28) : Prop where
  grid : chkG g = true
  n0 : 0 ≤ s.f3
  n1 : s.f3 ≤ 1000000
  late : 0 ≤ s.f1
  bad : 0 ≤ s.f2
  lb : s.f1 + s.f2 ≤ s.f3
  mark : s.f0 = -1 ∨ (0 ≤ s.f0 ∧ s.f0 ≤ 1099511627776)
  len : s.f4.length ≤ 64
  ord : srt s.f4
  each : ∀ c ∈ s.f4, WinOk g s.f0 (8 * s.f3) c
  op : ∀ c ∈ s.f4, closedP g c.f1 s.f0 = false
end
section
open Go.RowKit Go.Proofs.YtgipepjpkmlmaaaW.PrintWords Go.Proofs.YtgipepjpkmlmaaaW.PrintLast Go.Proofs.YtgipepjpkmlmaaaW.PrintMore
end
section
open Go.RowKit Go.Proofs.YtgipepjpkmlmaaaW.PrintWords Go.Proofs.YtgipepjpkmlmaaaW.PrintLast Go.Proofs.YtgipepjpkmlmaaaW.PrintMore
/-- Two windows of another key or beginning. -/
def neK (a b : S46) : Prop := keyC a ≠ keyC b
/-- What has been told is closed, and what is told or open is of its own. -/
structure OnceI (g : S23) (s : S28) (all : List S46) : Prop where
  inv : Inv g s
  cl : ∀ c ∈ all, closedP g c.f1 s.f0 = true
  ne : (all ++ s.f4).Pairwise neK
end
section
open Go.RowKit Go.Proofs.YtgipepjpkmlmaaaW.PrintWords Go.Proofs.YtgipepjpkmlmaaaW.PrintLast Go.Proofs.YtgipepjpkmlmaaaW.PrintMore
end
end Go.Proofs.Ytgipepjpkmlmaaa.P
namespace Go.Proofs.Ytgipepjpkmlmaaa.P
set_option linter.unusedVariables false
set_option linter.unusedSimpArgs false
section
open Go.RowKit Go.Proofs.YtgipepjpkmlmaaaW.PrintWords Go.Proofs.YtgipepjpkmlmaaaW.PrintLast Go.Proofs.YtgipepjpkmlmaaaW.PrintMore
/-- Does a window stand ahead of another one? -/
def aheadB (x y : S46) : Bool := decide (x.f1 < y.f1) || ((x.f1 == y.f1) && decide (x.f0 < y.f0))
def sumH (h0 h1 h2 h3 : Int) : Nat → Int
  | 0 => 0
  | 1 => h0
  | 2 => h0 + h1
  | 3 => h0 + h1 + h2
  | _ => h0 + h1 + h2 + h3
end
section
open Go.RowKit Go.Proofs.YtgipepjpkmlmaaaW.PrintWords Go.Proofs.YtgipepjpkmlmaaaW.PrintLast Go.Proofs.YtgipepjpkmlmaaaW.PrintMore
def putL (w : World) (g : Nat) : Nat → List Value → World
  | _, [] => w
  | o, v :: vs => putL (w.setCell ⟨g, o, none⟩ v) g (o + 1) vs
theorem putL_other {g k : Nat} (h : k ≠ g) : ∀ (vs : List Value) (o : Nat) (w : World), (putL w g o vs).heap[k]? = w.heap[k]?
  | [], o, w => rfl
  | v :: vs, o, w => (putL_other h vs (o + 1) _).trans (heap_setCell_other w (⟨g, o, none⟩ : Addr) k v h)
def put10 (w : World) (g : Nat) (a2 a3 a4 a5 a6 a7 a8 a9 a10 a11 : Value) : World := ((((((((((w.setCell ⟨g, 2, none⟩ a2).setCell ⟨g, 3, none⟩ a3).setCell ⟨g, 4, none⟩ a4).setCell ⟨g, 5, none⟩ a5).setCell ⟨g, 6, none⟩ a6).setCell ⟨g, 7, none⟩ a7).setCell ⟨g, 8, none⟩ a8).setCell ⟨g, 9, none⟩ a9).setCell ⟨g, 10, none⟩ a10).setCell ⟨g, 11, none⟩ a11)
theorem put10_heap {w : World} {g : Nat} {b0 b1 b2 b3 b4 b5 b6 b7 b8 b9 b10 b11 : Value} (h : w.heap[g]? = some (.cells #[b0, b1, b2, b3, b4, b5, b6, b7, b8, b9, b10, b11] 46 (0, 0))) (a2 a3 a4 a5 a6 a7 a8 a9 a10 a11 : Value) : (put10 w g a2 a3 a4 a5 a6 a7 a8 a9 a10 a11).heap[g]? = some (.cells #[b0, b1, a2, a3, a4, a5, a6, a7, a8, a9, a10, a11] 46 (0, 0)) := by
  unfold put10
  have g0 := blk_put (cs' := #[b0, b1, a2, b3, b4, b5, b6, b7, b8, b9, b10, b11]) h 2 a2 rfl
  have g1 := blk_put (cs' := #[b0, b1, a2, a3, b4, b5, b6, b7, b8, b9, b10, b11]) g0 3 a3 rfl
  have g2 := blk_put (cs' := #[b0, b1, a2, a3, a4, b5, b6, b7, b8, b9, b10, b11]) g1 4 a4 rfl
  have g3 := blk_put (cs' := #[b0, b1, a2, a3, a4, a5, b6, b7, b8, b9, b10, b11]) g2 5 a5 rfl
  have g4 := blk_put (cs' := #[b0, b1, a2, a3, a4, a5, a6, b7, b8, b9, b10, b11]) g3 6 a6 rfl
  have g5 := blk_put (cs' := #[b0, b1, a2, a3, a4, a5, a6, a7, b8, b9, b10, b11]) g4 7 a7 rfl
  have g6 := blk_put (cs' := #[b0, b1, a2, a3, a4, a5, a6, a7, a8, b9, b10, b11]) g5 8 a8 rfl
  have g7 := blk_put (cs' := #[b0, b1, a2, a3, a4, a5, a6, a7, a8, a9, b10, b11]) g6 9 a9 rfl
  have g8 := blk_put (cs' := #[b0, b1, a2, a3, a4, a5, a6, a7, a8, a9, a10, b11]) g7 10 a10 rfl
  have g9 := blk_put (cs' := #[b0, b1, a2, a3, a4, a5, a6, a7, a8, a9, a10, a11]) g8 11 a11 rfl
  exact g9
theorem put10_other {w : World} {g k : Nat} (h : k ≠ g) (a2 a3 a4 a5 a6 a7 a8 a9 a10 a11 : Value) : (put10 w g a2 a3 a4 a5 a6 a7 a8 a9 a10 a11).heap[k]? = w.heap[k]? := by
  have e : put10 w g a2 a3 a4 a5 a6 a7 a8 a9 a10 a11 = putL w g 2 [a2, a3, a4, a5, a6, a7, a8, a9, a10, a11] := rfl
  rw [e]
  exact putL_other h _ _ _
theorem put10_below {B g : Nat} {w0 w : World} (h : Below B w0 w) (hg : B ≤ g) (a2 a3 a4 a5 a6 a7 a8 a9 a10 a11 : Value) : Below B w0 (put10 w g a2 a3 a4 a5 a6 a7 a8 a9 a10 a11) := by
  unfold put10
  exact ((((((((((h.setCell hg _).setCell hg _).setCell hg _).setCell hg _).setCell hg _).setCell hg _).setCell hg _).setCell hg _).setCell hg _).setCell hg _)
end
section
open Go.RowKit Go.Proofs.YtgipepjpkmlmaaaW.PrintWords Go.Proofs.YtgipepjpkmlmaaaW.PrintLast Go.Proofs.YtgipepjpkmlmaaaW.PrintMore
end
end Go.Proofs.Ytgipepjpkmlmaaa.P
namespace Go.Proofs.Ytgipepjpkmlmaaa.P
open Go.RowKit Go.Proofs.YtgipepjpkmlmaaaW.PrintWords Go.Proofs.YtgipepjpkmlmaaaW.PrintLast Go.Proofs.YtgipepjpkmlmaaaW.PrintMore
set_option linter.unusedVariables false
set_option linter.unusedSimpArgs false
theorem same_l0 (l : List S46) (hl : l.length ≤ 1000000) : ∀ (n i : Nat), i + n = l.length → headgateref16_SameCells.l0 (n + 1) l l (i : Int) = some true := by
  intro n
  induction n with
  | zero =>
    intro i h
    rw [headgateref16_SameCells.l0, if_neg (by omega)]
  | succ n ih =>
    intro i h
    rw [headgateref16_SameCells.l0, if_pos (by omega), if_pos (by omega), if_pos (by omega), if_neg (by simp)]
    rw [show wrap64 ((i : Int) + 1) = ((i + 1 : Nat) : Int) by unfold wrap64; omega]
    exact ih (i + 1) (by omega)
theorem same_cells (l : List S46) (hl : l.length ≤ 1000000) : headgateref16_SameCells.f (l.length + 1) l l = some true := by
  unfold headgateref16_SameCells.f
  rw [if_pos rfl]
  exact same_l0 l hl _ 0 (by omega)
theorem same_state (s : S28) (hl : s.f4.length ≤ 1000000) : headgateref16_Same.f (s.f4.length + 1) s.f0 s.f1 s.f2 s.f3 s.f4 s.f0 s.f1 s.f2 s.f3 s.f4 = some true := by
  unfold headgateref16_Same.f
  rw [if_pos rfl, if_pos rfl, if_pos rfl, if_pos rfl, same_cells _ hl]
  rfl
section
variable {g : S23} {t : Int} (hg : chkG g = true) (h0 : 0 ≤ t) (h1 : t ≤ 1099511627776)
end
end Go.Proofs.Ytgipepjpkmlmaaa.P
namespace Go.Proofs.Ytgipepjpkmlmaaa.P
set_option linter.unusedVariables false
set_option linter.unusedSimpArgs false
section
open Go.RowKit Go.Proofs.YtgipepjpkmlmaaaW.PrintWords Go.Proofs.YtgipepjpkmlmaaaW.PrintLast Go.Proofs.YtgipepjpkmlmaaaW.PrintMore
/-- How many numbers there are in a row of windows. -/
def cntC (l : List S46) : Int := (l.map (fun c => c.f2.f0)).sum
end
section
open Go.RowKit Go.Proofs.YtgipepjpkmlmaaaW.PrintWords Go.Proofs.YtgipepjpkmlmaaaW.PrintLast Go.Proofs.YtgipepjpkmlmaaaW.PrintMore
def allA (vs : List Int) : S44 := vs.foldl addP z44
/-- Is a record one of a window's? -/
def inW (g : S23) (c : S46) (r : S50) : Bool := (r.f0 == c.f0) && (decide (r.f1 ≥ c.f1) && decide (r.f1 < c.f1 + g.f0))
def mineP (g : S23) (c : S46) (rs : List S50) : List Int := (rs.filter (inW g c)).map (fun r => (valP r.f2).1)
structure WholeI (g : S23) (rs : List S50) (s : S28) (all : List S46) : Prop where
  once : OnceI g s all
  agg : ∀ c ∈ all ++ s.f4, c.f2 = allA (mineP g c rs)
  has : ∀ r ∈ rs, ∀ a ∈ startsP g r.f1, ∃ c ∈ all ++ s.f4, keyC c = (r.f0, a)
  hop : ∀ c ∈ all ++ s.f4, 0 ≤ c.f1 ∧ Int.tmod c.f1 g.f1 = 0
  mark : ∀ r ∈ rs, r.f1 ≤ s.f0
  tim : ∀ r ∈ rs, 0 ≤ r.f1 ∧ r.f1 ≤ 1099511627776
  cnt : cntC (all ++ s.f4) = (rs.map (fun r => ((startsP g r.f1).length : Int))).sum
end
section
open Go.RowKit Go.Proofs.YtgipepjpkmlmaaaW.PrintWords Go.Proofs.YtgipepjpkmlmaaaW.PrintLast Go.Proofs.YtgipepjpkmlmaaaW.PrintMore
/-- A record that the law makes. -/
structure RecOk (r : S50) : Prop where
  k0 : 0 ≤ r.f0
  k1 : r.f0 ≤ 1
  t0 : 0 ≤ r.f1
  t1 : r.f1 ≤ 1099511627776
  v : (valP r.f2).2 = true
end
end Go.Proofs.Ytgipepjpkmlmaaa.P
namespace Go.Proofs.Ytgipepjpkmlmaaa.P
open Go.RowKit Go.Proofs.YtgipepjpkmlmaaaW.PrintWords Go.Proofs.YtgipepjpkmlmaaaW.PrintLast Go.Proofs.YtgipepjpkmlmaaaW.PrintMore
set_option linter.unusedVariables false
set_option linter.unusedSimpArgs false
def put44 (w : World) (g : Nat) (a0 a1 a2 a3 a4 a5 a6 a7 a8 a9 : Value) : World := ((((((((((w.setCell ⟨g, 0, none⟩ a0).setCell ⟨g, 1, none⟩ a1).setCell ⟨g, 2, none⟩ a2).setCell ⟨g, 3, none⟩ a3).setCell ⟨g, 4, none⟩ a4).setCell ⟨g, 5, none⟩ a5).setCell ⟨g, 6, none⟩ a6).setCell ⟨g, 7, none⟩ a7).setCell ⟨g, 8, none⟩ a8).setCell ⟨g, 9, none⟩ a9)
theorem put44_heap {w : World} {g : Nat} {b0 b1 b2 b3 b4 b5 b6 b7 b8 b9 : Value} (h : w.heap[g]? = some (.cells #[b0, b1, b2, b3, b4, b5, b6, b7, b8, b9] 44 (0, 0))) (a0 a1 a2 a3 a4 a5 a6 a7 a8 a9 : Value) : (put44 w g a0 a1 a2 a3 a4 a5 a6 a7 a8 a9).heap[g]? = some (.cells #[a0, a1, a2, a3, a4, a5, a6, a7, a8, a9] 44 (0, 0)) := by
  unfold put44
  have g0 := blk_put (cs' := #[a0, b1, b2, b3, b4, b5, b6, b7, b8, b9]) h 0 a0 rfl
  have g1 := blk_put (cs' := #[a0, a1, b2, b3, b4, b5, b6, b7, b8, b9]) g0 1 a1 rfl
  have g2 := blk_put (cs' := #[a0, a1, a2, b3, b4, b5, b6, b7, b8, b9]) g1 2 a2 rfl
  have g3 := blk_put (cs' := #[a0, a1, a2, a3, b4, b5, b6, b7, b8, b9]) g2 3 a3 rfl
  have g4 := blk_put (cs' := #[a0, a1, a2, a3, a4, b5, b6, b7, b8, b9]) g3 4 a4 rfl
  have g5 := blk_put (cs' := #[a0, a1, a2, a3, a4, a5, b6, b7, b8, b9]) g4 5 a5 rfl
  have g6 := blk_put (cs' := #[a0, a1, a2, a3, a4, a5, a6, b7, b8, b9]) g5 6 a6 rfl
  have g7 := blk_put (cs' := #[a0, a1, a2, a3, a4, a5, a6, a7, b8, b9]) g6 7 a7 rfl
  have g8 := blk_put (cs' := #[a0, a1, a2, a3, a4, a5, a6, a7, a8, b9]) g7 8 a8 rfl
  have g9 := blk_put (cs' := #[a0, a1, a2, a3, a4, a5, a6, a7, a8, a9]) g8 9 a9 rfl
  exact g9
theorem put44_below {B g : Nat} {w0 w : World} (h : Below B w0 w) (hg : B ≤ g) (a0 a1 a2 a3 a4 a5 a6 a7 a8 a9 : Value) : Below B w0 (put44 w g a0 a1 a2 a3 a4 a5 a6 a7 a8 a9) := by
  unfold put44
  exact ((((((((((h.setCell hg _).setCell hg _).setCell hg _).setCell hg _).setCell hg _).setCell hg _).setCell hg _).setCell hg _).setCell hg _).setCell hg _)
end Go.Proofs.Ytgipepjpkmlmaaa.P
namespace Go.Proofs.Ytgipepjpkmlmaaa.P
set_option linter.unusedVariables false
set_option linter.unusedSimpArgs false
section
open Go.RowKit Go.Proofs.YtgipepjpkmlmaaaW.PrintWords Go.Proofs.YtgipepjpkmlmaaaW.PrintLast Go.Proofs.YtgipepjpkmlmaaaW.PrintMore
end
section
open Go.RowKit Go.Proofs.YtgipepjpkmlmaaaW.PrintWords Go.Proofs.YtgipepjpkmlmaaaW.PrintLast Go.Proofs.YtgipepjpkmlmaaaW.PrintMore
open Go.ChangeShapes Go.WideShapes
section
variable {H : Type} {enc : TypeId × Value → H} {w : World} {base : Nat} {spare : Nat → Bool} {held : Bool}
instance : Inhabited S23 := ⟨z23⟩
end
end
section
open Go.RowKit Go.Proofs.YtgipepjpkmlmaaaW.PrintWords Go.Proofs.YtgipepjpkmlmaaaW.PrintLast Go.Proofs.YtgipepjpkmlmaaaW.PrintMore
open Go.Proofs.YtgipepjpkmlmaaaW.PrintWords.Kd
section
variable {P : Program} {o : Oper} {a : Act} {K : Act → World → Prop} {Q : Exit → Act → World → Prop} {α : Type}
end
end
end Go.Proofs.Ytgipepjpkmlmaaa.P
namespace Go.Proofs.Ytgipepjpkmlmaaa.P
open Go.RowKit Go.Proofs.YtgipepjpkmlmaaaW.PrintWords Go.Proofs.YtgipepjpkmlmaaaW.PrintLast Go.Proofs.YtgipepjpkmlmaaaW.PrintMore
set_option linter.unusedVariables false
set_option linter.unusedSimpArgs false
open Go.ChangeShapes Go.WideShapes
def i64R (v : Int) : Prop := -9223372036854775808 ≤ v ∧ v ≤ 9223372036854775807
structure aggR (a : S44) : Prop where
  r0 : i64R a.f0
  r1 : i64R a.f1
  r2 : i64R a.f2
  r3 : i64R a.f3
  r4 : i64R a.f4.f0
  r5 : i64R a.f4.f1
  r6 : i64R a.f4.f2
  r7 : i64R a.f4.f3
  r8 : i64R a.f5
  r9 : i64R a.f6
structure cellR (c : S46) : Prop where
  r0 : i64R c.f0
  r1 : i64R c.f1
  ag : aggR c.f2
structure stateR (s : S28) : Prop where
  r0 : i64R s.f0
  r1 : i64R s.f1
  r2 : i64R s.f2
  r3 : i64R s.f3
  cs : ∀ c ∈ s.f4, cellR c
section
variable {H : Type} {enc : TypeId × Value → H} {w : World} {base : Nat} {spare : Nat → Bool} {held : Bool}
theorem wf_i64 {x : Int} (h : (Lit.int .i64 x).wf = true) : i64R x := by
  unfold Lit.wf at h
  simp only [Bool.and_eq_true, decide_eq_true_eq] at h
  exact h
theorem open_i {n : Nat} {cs : List Value} {y : DataW H × List MemPlace} (h : DataW.trod enc Try.prog w base spare held n 3 cs = some y) : ∃ x, cs = [.int .i64 x] ∧ i64R x := by
  obtain ⟨x, e, _, hw⟩ := DataW.trod_int (k := .i64) (by kernel_rfl) h
  exact ⟨x, e, wf_i64 hw⟩
theorem open_i1 {n : Nat} {c : Value} {y : Option (DataW H × List MemPlace)} (h : DataW.trod enc Try.prog w base spare held n 3 [c] = y) (hy : y.isSome = true) : ∃ x, c = .int .i64 x ∧ i64R x := by
  obtain ⟨y', rfl⟩ := Option.isSome_iff_exists.1 hy
  obtain ⟨x, e, hx⟩ := open_i h
  injection e with e _
  exact ⟨x, e, hx⟩
theorem some_at {α : Type} (l : List α) (n i : Nat) (h : l.length = n) (hi : i < n) : (l[i]?).isSome = true := by
  rw [List.getElem?_eq_getElem (by omega)]
  rfl
set_option maxRecDepth 100000 in
theorem open_agg {n : Nat} {cs : List Value} {y : DataW H × List MemPlace} (h : DataW.trod enc Try.prog w base spare held n 44 cs = some y) : ∃ a : S44, cs = [.int .i64 a.f0, .int .i64 a.f1, .int .i64 a.f2, .int .i64 a.f3, .int .i64 a.f4.f0, .int .i64 a.f4.f1, .int .i64 a.f4.f2, .int .i64 a.f4.f3, .int .i64 a.f5, .int .i64 a.f6] ∧ aggR a := by
  obtain ⟨xs, m, rfl, _, hlen, hxl, hf⟩ := DataW.trod_struct (Try.underlying44) h
  have hl : cs.length = 10 := hlen
  obtain ⟨c0, c1, c2, c3, c4, c5, c6, c7, c8, c9, rfl⟩ : ∃ c0 c1 c2 c3 c4 c5 c6 c7 c8 c9, cs = [c0, c1, c2, c3, c4, c5, c6, c7, c8, c9] := by
    match cs, hl with
    | [a0, a1, a2, a3, a4, a5, a6, a7, a8, a9], _ => exact ⟨a0, a1, a2, a3, a4, a5, a6, a7, a8, a9, rfl⟩
  have hx : xs.length = 7 := hxl
  have g0 : DataW.trod enc Try.prog w base spare held m 3 [c0] = xs[0]? := hf 0 _ rfl
  have g1 : DataW.trod enc Try.prog w base spare held m 3 [c1] = xs[1]? := hf 1 _ rfl
  have g2 : DataW.trod enc Try.prog w base spare held m 3 [c2] = xs[2]? := hf 2 _ rfl
  have g3 : DataW.trod enc Try.prog w base spare held m 3 [c3] = xs[3]? := hf 3 _ rfl
  have g4 : DataW.trod enc Try.prog w base spare held m 42 [c4, c5, c6, c7] = xs[4]? := hf 4 _ rfl
  have g5 : DataW.trod enc Try.prog w base spare held m 3 [c8] = xs[5]? := hf 5 _ rfl
  have g6 : DataW.trod enc Try.prog w base spare held m 3 [c9] = xs[6]? := hf 6 _ rfl
  obtain ⟨x0, rfl, q0⟩ := open_i1 g0 (some_at xs 7 0 hx (by omega))
  obtain ⟨x1, rfl, q1⟩ := open_i1 g1 (some_at xs 7 1 hx (by omega))
  obtain ⟨x2, rfl, q2⟩ := open_i1 g2 (some_at xs 7 2 hx (by omega))
  obtain ⟨x3, rfl, q3⟩ := open_i1 g3 (some_at xs 7 3 hx (by omega))
  obtain ⟨x8, rfl, q8⟩ := open_i1 g5 (some_at xs 7 5 hx (by omega))
  obtain ⟨x9, rfl, q9⟩ := open_i1 g6 (some_at xs 7 6 hx (by omega))
  rw [List.getElem?_eq_getElem (by omega)] at g4
  obtain ⟨ys, m2, rfl, _, _, hyl, hy⟩ := DataW.trod_array (n := 4) (e := 3) (Try.underlying42) g4
  have k0 : DataW.trod enc Try.prog w base spare held m2 3 [c4] = ys[0]? := hy 0 (by omega)
  have k1 : DataW.trod enc Try.prog w base spare held m2 3 [c5] = ys[1]? := hy 1 (by omega)
  have k2 : DataW.trod enc Try.prog w base spare held m2 3 [c6] = ys[2]? := hy 2 (by omega)
  have k3 : DataW.trod enc Try.prog w base spare held m2 3 [c7] = ys[3]? := hy 3 (by omega)
  obtain ⟨x4, rfl, q4⟩ := open_i1 k0 (some_at ys 4 0 hyl (by omega))
  obtain ⟨x5, rfl, q5⟩ := open_i1 k1 (some_at ys 4 1 hyl (by omega))
  obtain ⟨x6, rfl, q6⟩ := open_i1 k2 (some_at ys 4 2 hyl (by omega))
  obtain ⟨x7, rfl, q7⟩ := open_i1 k3 (some_at ys 4 3 hyl (by omega))
  exact ⟨⟨x0, x1, x2, x3, ⟨x4, x5, x6, x7⟩, x8, x9⟩, rfl, ⟨q0, q1, q2, q3, q4, q5, q6, q7, q8, q9⟩⟩
instance : Inhabited S46 := ⟨z46⟩
set_option maxRecDepth 100000 in
theorem open_cell {n : Nat} {cs : List Value} {y : DataW H × List MemPlace} (h : DataW.trod enc Try.prog w base spare held n 46 cs = some y) : ∃ p : S46, k46.K w p cs ∧ cellR p := by
  obtain ⟨xs, m, rfl, _, hlen, hxl, hf⟩ := DataW.trod_struct (Try.underlying46) h
  have hl : cs.length = 12 := hlen
  obtain ⟨c0, c1, c2, c3, c4, c5, c6, c7, c8, c9, c10, c11, rfl⟩ : ∃ c0 c1 c2 c3 c4 c5 c6 c7 c8 c9 c10 c11, cs = [c0, c1, c2, c3, c4, c5, c6, c7, c8, c9, c10, c11] := by
    match cs, hl with
    | [a0, a1, a2, a3, a4, a5, a6, a7, a8, a9, a10, a11], _ => exact ⟨a0, a1, a2, a3, a4, a5, a6, a7, a8, a9, a10, a11, rfl⟩
  have hx : xs.length = 3 := hxl
  have g0 : DataW.trod enc Try.prog w base spare held m 3 [c0] = xs[0]? := hf 0 _ rfl
  have g1 : DataW.trod enc Try.prog w base spare held m 3 [c1] = xs[1]? := hf 1 _ rfl
  have g2 : DataW.trod enc Try.prog w base spare held m 44 [c2, c3, c4, c5, c6, c7, c8, c9, c10, c11] = xs[2]? := hf 2 _ rfl
  obtain ⟨x0, rfl, q0⟩ := open_i1 g0 (some_at xs 3 0 hx (by omega))
  obtain ⟨x1, rfl, q1⟩ := open_i1 g1 (some_at xs 3 1 hx (by omega))
  rw [List.getElem?_eq_getElem (by omega)] at g2
  obtain ⟨a, ha, hr⟩ := open_agg g2
  refine ⟨⟨x0, x1, a⟩, ?_, ⟨q0, q1, hr⟩⟩
  rw [ha]
  exact k46_mk w ⟨x0, x1, a⟩
end
end Go.Proofs.Ytgipepjpkmlmaaa.P
namespace Go.Proofs.Ytgipepjpkmlmaaa.P
open Go.RowKit Go.Proofs.YtgipepjpkmlmaaaW.PrintWords Go.Proofs.YtgipepjpkmlmaaaW.PrintLast Go.Proofs.YtgipepjpkmlmaaaW.PrintMore
attribute [local go_sem] max2_int min2_int max_two min_two max_three min_three max_four min_four   -- for this text's walks alone
set_option linter.unusedVariables false
set_option linter.unusedSimpArgs false
mutual
def headgateref01_TakeAll.j0 : Nat → ByteArray → Int → Bool → Option (List Int × ByteArray × Int)
  | 0, _, _, _ => none
  | k + 1, x0, x1, x17 => if x17 = true then (some (([] : List Int), (⟨#[]⟩ : ByteArray), 1)) else (headgateref01_TakeAll.l0 k x0 x1 ([] : List Int) 0)
def headgateref01_TakeAll.l0 : Nat → ByteArray → Int → List Int → Int → Option (List Int × ByteArray × Int)
  | 0, _, _, _, _ => none
  | k + 1, x0, x1, x7, x8 => if x8 < x1 then ((headgateref01_Take.f k x0).bind fun bt424 => (if bt424.2.2 = 0 then (if x7.length < 17592186044416 then (headgateref01_TakeAll.l0 k bt424.2.1 x1 (x7 ++ [bt424.1]) (wrap64 (x8 + 1))) else (none)) else (some (([] : List Int), (⟨#[]⟩ : ByteArray), bt424.2.2)))) else (some (x7, x0, 0))
end
def headgateref01_TakeAll.f (k : Nat) (a0 : ByteArray) (a1 : Int) : Option (List Int × ByteArray × Int) := if a1 < 0 then (headgateref01_TakeAll.j0 k a0 a1 true) else (headgateref01_TakeAll.j0 k a0 a1 (decide (a1 > 64)))
theorem headgateref01_TakeAll.mono_l : ∀ k, (∀ y0 y1 y2, LeO (headgateref01_TakeAll.j0 k y0 y1 y2) (headgateref01_TakeAll.j0 (k + 1) y0 y1 y2)) ∧ (∀ y0 y1 y2 y3, LeO (headgateref01_TakeAll.l0 k y0 y1 y2 y3) (headgateref01_TakeAll.l0 (k + 1) y0 y1 y2 y3))
  | 0 => ⟨fun _ _ _ r h => by simp [headgateref01_TakeAll.j0] at h, fun _ _ _ _ r h => by simp [headgateref01_TakeAll.l0] at h⟩
  | k + 1 => by
    obtain ⟨ih0, ih1⟩ := headgateref01_TakeAll.mono_l k
    refine ⟨?_, ?_⟩
    · intro y0 y1 y2
      unfold headgateref01_TakeAll.j0
      repeat' first
      | (with_reducible exact ih0 _ _ _)
      | (with_reducible exact ih1 _ _ _ _)
      | (with_reducible exact headgateref01_Take.mono _ _)
      | (with_reducible exact LeO.refl _)
      | (with_reducible exact LeO.none _)
      | (with_reducible refine LeO.ite ?_ ?_)
      | (with_reducible refine LeO.bind ?_ (fun _ => ?_))
      | exact ih0 _ _ _
      | exact ih1 _ _ _ _
      | exact headgateref01_Take.mono _ _
      | exact LeO.none _
      | refine LeO.ite ?_ ?_
      | refine LeO.bind ?_ (fun _ => ?_)
    · intro y0 y1 y2 y3
      unfold headgateref01_TakeAll.l0
      repeat' first
      | (with_reducible exact ih0 _ _ _)
      | (with_reducible exact ih1 _ _ _ _)
      | (with_reducible exact headgateref01_Take.mono _ _)
      | (with_reducible exact LeO.refl _)
      | (with_reducible exact LeO.none _)
      | (with_reducible refine LeO.ite ?_ ?_)
      | (with_reducible refine LeO.bind ?_ (fun _ => ?_))
      | exact ih0 _ _ _
      | exact ih1 _ _ _ _
      | exact headgateref01_Take.mono _ _
      | exact LeO.none _
      | refine LeO.ite ?_ ?_
      | refine LeO.bind ?_ (fun _ => ?_)
theorem headgateref01_TakeAll.mono : ∀ a0 a1 k, LeO (headgateref01_TakeAll.f k a0 a1) (headgateref01_TakeAll.f (k + 1) a0 a1) := by
  intro a0 a1 k
  obtain ⟨ih0, ih1⟩ := headgateref01_TakeAll.mono_l k
  unfold headgateref01_TakeAll.f
  repeat' first
      | (with_reducible exact ih0 _ _ _)
      | (with_reducible exact ih1 _ _ _ _)
      | (with_reducible exact headgateref01_Take.mono _ _)
      | (with_reducible exact LeO.refl _)
      | (with_reducible exact LeO.none _)
      | (with_reducible refine LeO.ite ?_ ?_)
      | (with_reducible refine LeO.bind ?_ (fun _ => ?_))
      | exact ih0 _ _ _
      | exact ih1 _ _ _ _
      | exact headgateref01_Take.mono _ _
      | exact LeO.none _
      | refine LeO.ite ?_ ?_
      | refine LeO.bind ?_ (fun _ => ?_)
set_option maxHeartbeats 8000000 in
set_option maxRecDepth 100000 in
theorem headgateref01_TakeAll.calls (k : Nat) (a0 : ByteArray) (a1 : Int) (r1 : List Int) (r2 : ByteArray) (r3 : Int) (w : World) (h : headgateref01_TakeAll.f k a0 a1 = some (r1, r2, r3)) :
    Calls Try.prog 92 #[.string a0, .int .i64 a1] w fun e w' => ∃ v0_ : Value, e = .returned (.tuple #[v0_, .string r2, .int .i64 r3]) ∧ Kd.R (Kd.int .i64) 3 w' w.heap.size (fun _ => True) v0_ r1 ∧ Below w.heap.size w w' := by
  have HB := Aside0.mk (Below.refl w.heap.size w)
  have H : (if a1 < 0 then (headgateref01_TakeAll.j0 k a0 a1 true) else (headgateref01_TakeAll.j0 k a0 a1 (decide (a1 > 64)))) = some (r1, r2, r3) := h
  clear h
  have HC3 := Aside0.mk H
  clear H
  go_enter Try.func92, Try.ntmps92
  go_upto_region 1 with (fail)
  go_cut [17] (fun v17 wc => ∃ (kq : Nat) (x17_2 : Bool), v17 = .bool x17_2 ∧ Aside0 (headgateref01_TakeAll.j0 kq a0 a1 x17_2 = some (r1, r2, r3)) ∧ Aside0 (kq ≤ k) ∧ Aside0 (Below w.heap.size w wc))
  case first =>
    have H := HC3.out
    clear HC3
    by_cases c4 : a1 < 0
    · rw [if_pos c4] at H
      have c4b0 : decide (a1 < 0) = true := decide_eq_true c4
      clear c4
      (first | rw [c4b0] | (simp only [i64_w, i32_w]; rw [c4b0]) | skip)
      have H' := Aside0.mk H
      clear H
      go_wp2
      go_meet
      case rel => exact ⟨_, (true), (by first | rfl | (simp; done) | (simp [*]; done)), H', ⟨by first | omega | exact Nat.le_refl _⟩, ⟨by repeat (first | (with_reducible first | exact HB.out | apply below_alloc | apply pw_below_drewN | apply below_drew1) | exact HB.out)⟩⟩
    · rw [if_neg c4] at H
      have c4b0 : decide (a1 < 0) = false := decide_eq_false c4
      clear c4
      (first | rw [c4b0] | (simp only [i64_w, i32_w]; rw [c4b0]) | skip)
      have H' := Aside0.mk H
      clear H
      go_wp2
      go_meet
      case rel => exact ⟨_, (decide (a1 > 64)), (by first | rfl | (simp; done) | (simp [*]; done)), H', ⟨by first | omega | exact Nat.le_refl _⟩, ⟨by repeat (first | (with_reducible first | exact HB.out | apply below_alloc | apply pw_below_drewN | apply below_drew1) | exact HB.out)⟩⟩
  case rest =>
    clear HC3
    try clear p2
    try clear c4
    try clear c4b0
    obtain ⟨kq, x17_2, rfl, HA, HJ2, HB⟩ := hcut
    cases kq with
    | zero => exact absurd HA.out (by simp [headgateref01_TakeAll.j0])
    | succ kj2 =>
      have H := HA.out
      clear HA
      simp only [headgateref01_TakeAll.j0] at H
      by_cases c5 : x17_2 = true
      · subst c5
        have H1 : (some (([] : List Int), (⟨#[]⟩ : ByteArray), 1)) = some (r1, r2, r3) := by rw [if_pos rfl] at H; exact H
        clear H
        have H := H1
        clear H1
        simp only [Option.some.injEq, Prod.mk.injEq] at H
        obtain ⟨rfl, rfl, rfl⟩ := H
        go_wp2
        go_ret3
        exact ⟨_, by first | rfl | (simp [errW_none, errW_some] <;> rfl) | (simp [*, errW_none, errW_some] <;> rfl), by first | exact Kd.R_nil _ _ _ _ _ | exact Kd.N_nil _ _ _ _ _ | exact Kd.V_nil _ _ _ _ _ | exact Kd.Q_nil _ _ _ _ _ | exact Kd.S_nil _ _ _ _ _, by repeat (first | (with_reducible first | exact HB.out | apply below_alloc | apply pw_below_drewN | apply below_drew1) | exact HB.out)⟩
      · replace c5 := Bool.eq_false_iff.mpr c5
        subst c5
        have H1 : (headgateref01_TakeAll.l0 kj2 a0 a1 ([] : List Int) 0) = some (r1, r2, r3) := by rw [if_neg (show ¬ (false = true) by decide)] at H; exact H
        clear H
        have H := H1
        clear H1
        have H' := Aside0.mk H
        clear H
        go_wp2
        (try simp only [Act.put, List.setIfInBounds_toArray, List.set_cons_zero, List.set_cons_succ])
        go_loopg [0, 7, 8] kj2 (fun kq v0 v7 v8 w' => ∃ (x0_2 : ByteArray) (x7_2 : List Int) (x8_2 : Int), v0 = .string x0_2 ∧ v8 = .int .i64 x8_2 ∧ Aside0 (headgateref01_TakeAll.l0 kq x0_2 a1 x7_2 x8_2 = some (r1, r2, r3)) ∧ Aside0 (kq ≤ kj2) ∧ Aside0 (Kd.R (Kd.int .i64) 3 w' w.heap.size (fun _ => True) v7 x7_2) ∧ Aside0 (Below w.heap.size w w'))
        case atStart => exact ⟨(a0), (([] : List Int)), (0), (by first | rfl | (simp; done) | (simp [*]; done)), (by first | rfl | (simp; done) | (simp [*]; done)), H', ⟨Nat.le_refl _⟩, ⟨by first | exact Kd.R_nil _ _ _ _ _ | exact Kd.N_nil _ _ _ _ _ | exact Kd.V_nil _ _ _ _ _ | exact Kd.Q_nil _ _ _ _ _ | exact Kd.S_nil _ _ _ _ _⟩, ⟨by repeat (first | (with_reducible first | exact HB.out | apply below_alloc | apply pw_below_drewN | apply below_drew1) | exact HB.out)⟩⟩
        case round =>
          clear H'
          try clear p2
          try clear c4
          try clear c4b0
          try clear c5
          try clear p2
          obtain ⟨x0_2, x7_2, x8_2, rfl, rfl, HA, HK2, HO_7, HB⟩ := hrel
          cases gk with
          | zero => exact absurd HA.out (by simp [headgateref01_TakeAll.l0])
          | succ k2 =>
            have H := HA.out
            clear HA
            simp only [headgateref01_TakeAll.l0] at H
            by_cases c6 : x8_2 < a1
            · rw [if_pos c6] at H
              have c6b0 : decide (x8_2 < a1) = true := decide_eq_true c6
              clear c6
              replace H := Option.bind_eq_some_iff.mp H
              obtain ⟨⟨t424, t425, t426⟩, A70, H⟩ := H
              replace H : (if t426 = 0 then (if x7_2.length < 17592186044416 then (headgateref01_TakeAll.l0 k2 t425 a1 (x7_2 ++ [t424]) (wrap64 (x8_2 + 1))) else (none)) else (some (([] : List Int), (⟨#[]⟩ : ByteArray), t426))) = some (r1, r2, r3) := H
              have A7 := Aside0.mk A70
              clear A70
              by_cases c8 : t426 = 0
              · rw [if_pos c8] at H
                have c8b0 : (t426 == 0) = true := beq_iff_eq.mpr c8
                have c8b1 : (t426 != 0) = false := bne_eq_false_iff_eq.mpr c8
                clear c8
                by_cases c9 : x7_2.length < 17592186044416
                · rw [if_pos c9] at H
                  have LMc9 := Aside0.mk c9
                  clear c9
                  obtain ⟨y427, hy427⟩ : ∃ y_ : List Int, y_ = (x7_2 ++ [t424]) := ⟨_, rfl⟩
                  replace H : (headgateref01_TakeAll.l0 k2 t425 a1 y427 (wrap64 (x8_2 + 1))) = some (r1, r2, r3) := by first | (rw [hy427]; with_reducible exact H) | (have H2_ := (Option.bind_some _ _).symm.trans H; rw [hy427]; with_reducible exact H2_) | (have H2_ := (Option.bind_some _ _).symm.trans H; with_reducible exact H2_) | with_reducible exact H | (rw [hy427]; exact H) | exact H
                  have Ny427 := Aside0.mk hy427
                  clear hy427
                  have H' := Aside0.mk H
                  clear H
                  go_wp2_with (first | ((with_reducible refine gate_callee (f := 49) rfl ?_); refine goesL_ (some 25) rfl rfl Try.func49 (by kernel_rfl) rfl #[.string x0_2] rfl (by (try simp only [List.map_toArray, List.map_cons, List.map_nil]); first | done | rfl | (simp only [List.length_drop, List.length_take]; rfl)) ?_; (with_reducible refine (headgateref01_Take.calls k2 x0_2 t424 t425 t426 _ A7.out).mono ?_); rintro e w10 ⟨rfl, hb⟩; refine ⟨_, rfl, ?_⟩; have n0_ := Aside0.mk (Kd.R_below (by (with_reducible repeat (first | apply Kd.R_alloc | apply Kd.R_drewN | apply Kd.R_drew)); exact HO_7.out) hb); have n1_ := Aside0.mk (below_step (by repeat (first | (with_reducible first | exact HB.out | apply below_alloc | apply pw_below_drewN | apply below_drew1) | exact HB.out)) hb); clear HO_7; clear HB; have HO_7 := n0_; have HB := n1_; clear n0_ n1_; (try clear hb); (try clear hb2); (try clear hk); (try clear hi)) | ((with_reducible refine gate_builtin (b := .append) (xs := #[.tmp 32, .tmp 34]) rfl ?_); at_builtin; refine Kd.R_append (Kd.int .i64) (w0 := w) w.heap.size rfl (.tmp 32) (.tmp 34) 53 3 (.int .i64 0) 8 rfl Try.underlying53 info3 rfl (by decide) (by omega) u7 x7_2 t424 [.int .i64 t424] (fun _ => True) (fun _ => False) rfl rfl ?aP (fun _ hk => hk.elim) ?aF ?aO ?aB ?aS ?aL ?_; (case aP => exact rfl); (case aB => exact (by repeat (first | (with_reducible first | exact HB.out | apply below_alloc | apply pw_below_drewN | apply below_drew1) | exact HB.out))); (case aF => exact (fun _ _ => trivial)); (case aO => exact (by (with_reducible repeat (first | apply Kd.R_alloc | apply Kd.R_drewN | apply Kd.R_drew)); exact HO_7.out)); (case aS => exact (below_size (by repeat (first | (with_reducible first | exact HB.out | apply below_alloc | apply pw_below_drewN | apply below_drew1) | exact HB.out)))); (case aL => have := LMc9.out; omega); intro v428 w11 ho hb hg hat; rw [← Ny427.out] at ho; have n0_ := Aside0.mk (hb); have n1_ := Aside0.mk (ho); clear HB; clear HO_7; have HB := n0_; have HO429 := n1_; clear n0_ n1_; clear ho hb hg hat))
                  go_roundg k2
                  case measure => have := HJ2.out; have := HK2.out; omega
                  case rel => exact ⟨(t425), (y427), (wrap64 (x8_2 + 1)), (by first | rfl | (simp; done) | (simp [*]; done)), (by first | rfl | (simp; done) | (simp [*]; done)), H', ⟨by have := HJ2.out; have := HK2.out; omega⟩, ⟨by (with_reducible repeat (first | apply Kd.R_alloc | apply Kd.R_drewN | apply Kd.R_drew)); exact HO429.out⟩, ⟨by repeat (first | (with_reducible first | exact HB.out | apply below_alloc | apply pw_below_drewN | apply below_drew1) | exact HB.out)⟩⟩
                · rw [if_neg c9] at H
                  exact absurd H (by simp)
              · rw [if_neg c8] at H
                have c8b0 : (t426 == 0) = false := beq_eq_false_iff_ne.mpr c8
                have c8b1 : (t426 != 0) = true := bne_iff_ne.mpr c8
                simp only [Option.some.injEq, Prod.mk.injEq] at H
                obtain ⟨rfl, rfl, rfl⟩ := H
                go_wp2_with (first | ((with_reducible refine gate_callee (f := 49) rfl ?_); refine goesL_ (some 25) rfl rfl Try.func49 (by kernel_rfl) rfl #[.string x0_2] rfl (by (try simp only [List.map_toArray, List.map_cons, List.map_nil]); first | done | rfl | (simp only [List.length_drop, List.length_take]; rfl)) ?_; (with_reducible refine (headgateref01_Take.calls k2 x0_2 t424 t425 t426 _ A7.out).mono ?_); rintro e w12 ⟨rfl, hb⟩; refine ⟨_, rfl, ?_⟩; have n0_ := Aside0.mk (Kd.R_below (by (with_reducible repeat (first | apply Kd.R_alloc | apply Kd.R_drewN | apply Kd.R_drew)); exact HO_7.out) hb); have n1_ := Aside0.mk (below_step (by repeat (first | (with_reducible first | exact HB.out | apply below_alloc | apply pw_below_drewN | apply below_drew1) | exact HB.out)) hb); clear HO_7; clear HB; have HO_7 := n0_; have HB := n1_; clear n0_ n1_; (try clear hb); (try clear hb2); (try clear hk); (try clear hi)))
                go_ret3
                exact ⟨_, by first | rfl | (simp [errW_none, errW_some] <;> rfl) | (simp [*, errW_none, errW_some] <;> rfl), by first | exact Kd.R_nil _ _ _ _ _ | exact Kd.N_nil _ _ _ _ _ | exact Kd.V_nil _ _ _ _ _ | exact Kd.Q_nil _ _ _ _ _ | exact Kd.S_nil _ _ _ _ _, by repeat (first | (with_reducible first | exact HB.out | apply below_alloc | apply pw_below_drewN | apply below_drew1) | exact HB.out)⟩
            · rw [if_neg c6] at H
              have c6b0 : decide (x8_2 < a1) = false := decide_eq_false c6
              clear c6
              simp only [Option.some.injEq, Prod.mk.injEq] at H
              obtain ⟨rfl, rfl, rfl⟩ := H
              go_wp2
              go_ret3
              exact ⟨_, by first | rfl | (simp [errW_none, errW_some] <;> rfl) | (simp [*, errW_none, errW_some] <;> rfl), by (with_reducible repeat (first | apply Kd.R_alloc | apply Kd.R_drewN | apply Kd.R_drew)); exact HO_7.out, by repeat (first | (with_reducible first | exact HB.out | apply below_alloc | apply pw_below_drewN | apply below_drew1) | exact HB.out)⟩
end Go.Proofs.Ytgipepjpkmlmaaa.P
