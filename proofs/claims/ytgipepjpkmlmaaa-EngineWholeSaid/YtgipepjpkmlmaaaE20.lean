import Derived.Test.YtgipepjpkmlmaaaM9
import Derived.Test.YtgipepjpkmlmaaaF27
import Derived.Test.YtgipepjpkmlmaaaF28
import Derived.Test.YtgipepjpkmlmaaaF18
namespace Go.Proofs.Ytgipepjpkmlmaaa.P
open Go.RowKit Go.Proofs.YtgipepjpkmlmaaaW.PrintWords Go.Proofs.YtgipepjpkmlmaaaW.PrintLast Go.Proofs.YtgipepjpkmlmaaaW.PrintMore
set_option linter.unusedVariables false
set_option linter.unusedSimpArgs false

/-! ### Rows of windows: the same one is told as the same -/
theorem same_l0 (l : List S46) (hl : l.length ≤ 1000000) : ∀ (n i : Nat), i + n = l.length → headgateref16_SameCells.l0 (n + 1) l l (i : Int) = some true := by
  intro n
  induction n with
  | zero =>
    intro i h
    rw [headgateref16_SameCells.l0, if_neg (by omega)]
  | succ n ih =>
    intro i h
    rw [headgateref16_SameCells.l0, if_pos (by omega), if_pos (by omega), if_pos (by omega), if_neg (by simp)]
    rw [show wrap64 ((i : Int) + 1) = ((i + 1 : Nat) : Int) by unfold wrap64; omega]
    exact ih (i + 1) (by omega)
theorem same_cells (l : List S46) (hl : l.length ≤ 1000000) : headgateref16_SameCells.f (l.length + 1) l l = some true := by
  unfold headgateref16_SameCells.f
  rw [if_pos rfl]
  exact same_l0 l hl _ 0 (by omega)
theorem sameCells_calls (l : List S46) (hl : l.length ≤ 1000000) (A0 A1 : Option Addr) (c0 c1 : Nat) (w : World) (h0 : k46.C w A0 l.length l) (hc0 : l.length ≤ c0) (h1 : k46.C w A1 l.length l) (hc1 : l.length ≤ c1) :
    Calls Try.prog 19 #[.slice A0 l.length c0, .slice A1 l.length c1] w fun e w' => e = .returned (.bool true) ∧ Drawn0 w w' :=
  headgateref16_SameCells.calls _ A0 c0 l A1 c1 l true w h0 hc0 h1 hc1 (same_cells l hl)
theorem same_state (s : S28) (hl : s.f4.length ≤ 1000000) : headgateref16_Same.f (s.f4.length + 1) s.f0 s.f1 s.f2 s.f3 s.f4 s.f0 s.f1 s.f2 s.f3 s.f4 = some true := by
  unfold headgateref16_Same.f
  rw [if_pos rfl, if_pos rfl, if_pos rfl, if_pos rfl, same_cells _ hl]
  rfl
/-! ### The beginnings of a moment, by the reference -/
def stN (g : S23) (t : Int) (i : Nat) : Int := t - t % g.f1 - g.f0 + g.f1 * ((i : Int) + 1)
theorem grid_q {g : S23} (hg : chkG g = true) : ∃ q : Nat, 1 ≤ q ∧ q ≤ 8 ∧ g.f1 * (q : Int) = g.f0 ∧ wrap64 (Int.tdiv g.f0 g.f1) = (q : Int) := by
  obtain ⟨g0, g1, g2, g3, g4, g5, g6, g7⟩ := chkG_spec hg
  have e1 : Int.tdiv g.f0 g.f1 = g.f0 / g.f1 := Int.tdiv_eq_ediv_of_nonneg (by omega)
  have e2 : Int.tmod g.f0 g.f1 = g.f0 % g.f1 := Int.tmod_eq_emod_of_nonneg (by omega)
  rw [e2] at g4
  have q0 : 1 ≤ g.f0 / g.f1 := (Int.le_ediv_iff_mul_le (by omega)).2 (by omega)
  have qle : g.f0 / g.f1 ≤ g.f0 := Int.ediv_le_self _ (by omega)
  have hn : wrap64 (Int.tdiv g.f0 g.f1) = g.f0 / g.f1 := by rw [e1]; unfold wrap64; omega
  rw [hn] at g5
  have hd : g.f1 * (g.f0 / g.f1) + g.f0 % g.f1 = g.f0 := Int.mul_ediv_add_emod _ _
  refine ⟨(g.f0 / g.f1).toNat, by omega, by omega, ?_, by rw [hn]; omega⟩
  rw [show (((g.f0 / g.f1).toNat : Nat) : Int) = g.f0 / g.f1 by omega]
  omega
section
variable {g : S23} {t : Int} (hg : chkG g = true) (h0 : 0 ≤ t) (h1 : t ≤ 1099511627776)
theorem t_mod (hg : chkG g = true) (h0 : 0 ≤ t) : Int.tmod t g.f1 = t % g.f1 ∧ 0 ≤ t % g.f1 ∧ t % g.f1 < g.f1 ∧ t % g.f1 ≤ t := by
  obtain ⟨g0, g1, g2, g3, g4, g5, g6, g7⟩ := chkG_spec hg
  have ht : g.f1 * (t / g.f1) + t % g.f1 = t := Int.mul_ediv_add_emod _ _
  have hq : 0 ≤ t / g.f1 := Int.ediv_nonneg h0 (by omega)
  have hm : 0 ≤ g.f1 * (t / g.f1) := Int.mul_nonneg (by omega) hq
  exact ⟨Int.tmod_eq_emod_of_nonneg h0, Int.emod_nonneg _ (by omega), Int.emod_lt_of_pos _ (by omega), by omega⟩
theorem mul_le8 (hg : chkG g = true) (i : Nat) (hi : i ≤ 8) : 0 ≤ g.f1 * (i : Int) ∧ g.f1 * (i : Int) ≤ 8388608 := by
  obtain ⟨g0, g1, g2, g3, g4, g5, g6, g7⟩ := chkG_spec hg
  have a := Int.mul_le_mul_of_nonneg_left (show (i : Int) ≤ 8 by omega) (show 0 ≤ g.f1 by omega)
  have b := Int.mul_nonneg (show 0 ≤ g.f1 by omega) (show (0 : Int) ≤ (i : Int) by omega)
  omega
include hg h0 h1 in
theorem stAt_eq (i : Nat) (hi : i < 8) : stAt g t (i : Int) = stN g t i := by
  obtain ⟨g0, g1, g2, g3, g4, g5, g6, g7⟩ := chkG_spec hg
  obtain ⟨m0, m1, m2, m3⟩ := t_mod hg h0
  have hm := mul_le8 hg (i + 1) (by omega)
  rw [show (((i + 1 : Nat)) : Int) = (i : Int) + 1 by omega] at hm
  unfold stAt stN
  rw [m0]
  have w0 : wrap64 ((i : Int) + 1) = (i : Int) + 1 := by unfold wrap64; omega
  rw [w0]
  have w1 : wrap64 (g.f1 * ((i : Int) + 1)) = g.f1 * ((i : Int) + 1) := by unfold wrap64; omega
  rw [w1]
  have w2 : wrap64 (t - t % g.f1) = t - t % g.f1 := by unfold wrap64; omega
  rw [w2]
  have w3 : wrap64 (t - t % g.f1 - g.f0) = t - t % g.f1 - g.f0 := by unfold wrap64; omega
  rw [w3]
  unfold wrap64
  omega
theorem stN_mono (hg : chkG g = true) (i j : Nat) (h : i ≤ j) : stN g t i ≤ stN g t j := by
  obtain ⟨g0, g1, g2, g3, g4, g5, g6, g7⟩ := chkG_spec hg
  have a := Int.mul_le_mul_of_nonneg_left (show (i : Int) + 1 ≤ (j : Int) + 1 by omega) (show 0 ≤ g.f1 by omega)
  unfold stN
  omega
include hg h0 h1 in
theorem startL_skip (q : Nat) (hq : q ≤ 8) : ∀ i : Nat, i ≤ q → (∀ j : Nat, j < i → stN g t j < 0) → startL g t q 0 = startL g t (q - i) (i : Int) := by
  intro i
  induction i with
  | zero => intro _ _; rfl
  | succ i ih =>
    intro hi hj
    rw [ih (by omega) (fun j h => hj j (by omega))]
    rw [show q - i = (q - (i + 1)) + 1 by omega, startL, stAt_eq hg h0 h1 i (by omega), if_neg (by have := hj i (by omega); omega)]
    rfl
theorem rev_l1 (x : List Int) (hx : x.length ≤ 1000) : ∀ (n : Nat) (k : Nat) (y : List Int), n ≤ x.length → n < k → y.length + n ≤ 1000 → headgateref14_Starts.l1 k x y ((n : Int) - 1) = some (y ++ (x.take n).reverse, 0) := by
  intro n
  induction n with
  | zero =>
    intro k y _ hk _
    obtain ⟨k, rfl⟩ : ∃ j, k = j + 1 := ⟨k - 1, by omega⟩
    rw [headgateref14_Starts.l1, if_neg (by omega)]
    simp
  | succ n ih =>
    intro k y hn hk hy
    obtain ⟨k, rfl⟩ : ∃ j, k = j + 1 := ⟨k - 1, by omega⟩
    rw [show (((n + 1 : Nat)) : Int) - 1 = (n : Int) by omega]
    rw [headgateref14_Starts.l1, if_pos (by omega), if_pos (by omega), if_pos (by omega), if_pos (by omega), show wrap64 ((n : Int) - 1) = (n : Int) - 1 by unfold wrap64; omega, rdI x n (by omega)]
    rw [ih k (y ++ [x[n]]) (by omega) (by omega) (by simp; omega)]
    rw [List.take_succ_eq_append_getElem (show n < x.length by omega), List.reverse_append, List.append_assoc]
    rfl
theorem rev_j2 (x : List Int) (hx : x.length ≤ 1000) (k : Nat) (hk : x.length + 1 < k) : headgateref14_Starts.j2 k x = some (x.reverse, 0) := by
  obtain ⟨k, rfl⟩ : ∃ j, k = j + 1 := ⟨k - 1, by omega⟩
  rw [headgateref14_Starts.j2, show wrap64 ((x.length : Int) - 1) = (x.length : Int) - 1 by unfold wrap64; omega, rev_l1 x hx x.length k [] (by omega) (by omega) (by simp; omega)]
  simp
include hg h0 h1 in
theorem down_ref (q : Nat) (hq : q ≤ 8) (hf : g.f1 * (q : Int) = g.f0) : ∀ (i k : Nat), i ≤ q → i + 11 ≤ k →
    headgateref14_Starts.l0 k t (startL g t (q - i) (i : Int)).reverse (stN g t i - g.f1) g.f0 g.f1 g.f2 = some (startL g t q 0, 0) := by
  obtain ⟨g0, g1, g2, g3, g4, g5, g6, g7⟩ := chkG_spec hg
  obtain ⟨m0, m1, m2, m3⟩ := t_mod hg h0
  intro i
  induction i with
  | zero =>
    intro k _ hk
    obtain ⟨k, rfl⟩ : ∃ j, k = j + 1 := ⟨k - 1, by omega⟩
    have hl := startL_length g t q 0
    have ha : stN g t 0 - g.f1 = t - t % g.f1 - g.f0 := by
      unfold stN
      rw [show ((0 : Nat) : Int) + 1 = 1 from rfl, Int.mul_one]
      omega
    have hj := rev_j2 (startL g t q 0).reverse (by rw [List.length_reverse]; omega) k (by rw [List.length_reverse]; omega)
    rw [List.reverse_reverse] at hj
    show headgateref14_Starts.l0 (k + 1) t (startL g t q 0).reverse (stN g t 0 - g.f1) g.f0 g.f1 g.f2 = some (startL g t q 0, 0)
    rw [headgateref14_Starts.l0, ha]
    have e : wrap64 (t - t % g.f1 - g.f0 + g.f0) = t - t % g.f1 := by unfold wrap64; omega
    rw [e, if_neg (show ¬ (t - t % g.f1 > t) by omega)]
    split <;> exact hj
  | succ i ih =>
    intro k hi hk
    obtain ⟨k, rfl⟩ : ∃ j, k = j + 1 := ⟨k - 1, by omega⟩
    have hl := startL_length g t (q - (i + 1)) ((i + 1 : Nat) : Int)
    have hmul := mul_le8 hg (i + 1) (by omega)
    rw [show (((i + 1 : Nat)) : Int) = (i : Int) + 1 by omega] at hmul
    have ha : stN g t (i + 1) - g.f1 = stN g t i := by
      unfold stN
      rw [show (((i + 1 : Nat)) : Int) = (i : Int) + 1 by omega, Int.mul_add g.f1 ((i : Int) + 1) 1, Int.mul_one]
      omega
    have hst : stN g t i = t - t % g.f1 - g.f0 + g.f1 * ((i : Int) + 1) := rfl
    have hone : g.f1 ≤ g.f1 * ((i : Int) + 1) := by
      have := Int.mul_nonneg (show 0 ≤ g.f1 by omega) (show (0 : Int) ≤ (i : Int) by omega)
      rw [Int.mul_add, Int.mul_one]
      omega
    rw [headgateref14_Starts.l0, ha]
    by_cases c : stN g t i ≥ 0
    · have e : wrap64 (stN g t i + g.f0) = t - t % g.f1 + g.f1 * ((i : Int) + 1) := by unfold wrap64; omega
      rw [if_pos c, e, if_pos (by omega), if_pos (by rw [List.length_reverse]; omega)]
      have e2 : wrap64 (stN g t i - g.f1) = stN g t i - g.f1 := by unfold wrap64; omega
      rw [e2]
      have hx : startL g t (q - i) (i : Int) = stN g t i :: startL g t (q - (i + 1)) ((i + 1 : Nat) : Int) := by
        rw [show q - i = (q - (i + 1)) + 1 by omega, startL, stAt_eq hg h0 h1 i (by omega), if_pos c]
        rfl
      have := ih k (by omega) (by omega)
      rw [hx, List.reverse_cons] at this
      exact this
    · rw [if_neg c]
      have hsk := startL_skip hg h0 h1 q hq (i + 1) hi (fun j hj => by have := stN_mono (t := t) hg j i (by omega); omega)
      have hj := rev_j2 (startL g t (q - (i + 1)) ((i + 1 : Nat) : Int)).reverse (by rw [List.length_reverse]; omega) k (by rw [List.length_reverse]; omega)
      rw [List.reverse_reverse] at hj
      rw [hsk]
      exact hj
include hg h0 h1 in
/-- Both name the same beginnings. -/
theorem starts_ref : headgateref14_Starts.f 30 g.f0 g.f1 g.f2 t = some (startsP g t, 0) := by
  obtain ⟨g0, g1, g2, g3, g4, g5, g6, g7⟩ := chkG_spec hg
  obtain ⟨m0, m1, m2, m3⟩ := t_mod hg h0
  obtain ⟨q, q1, q8, qf, qw⟩ := grid_q hg
  have hm : headgateref14_May.f 30 g.f0 g.f1 g.f2 = some true := by
    have e := may_ref g hg
    have up : ∀ n, headgateref14_May.f (10 + n) g.f0 g.f1 g.f2 = some true := by
      intro n
      induction n with
      | zero => exact e
      | succ n ih => exact headgateref14_May.mono _ _ _ _ _ ih
    exact up 20
  unfold headgateref14_Starts.f
  rw [hm, Option.bind_some, if_pos rfl, if_neg (by omega), decide_eq_false (by omega), headgateref14_Starts.j0, if_neg (by decide), if_neg (by omega)]
  have e1 : Int.tdiv t g.f1 = t / g.f1 := Int.tdiv_eq_ediv_of_nonneg h0
  have ht : g.f1 * (t / g.f1) + t % g.f1 = t := Int.mul_ediv_add_emod _ _
  have hd0 : 0 ≤ t / g.f1 := Int.ediv_nonneg h0 (by omega)
  have hdle : t / g.f1 ≤ t := Int.ediv_le_self _ h0
  have w1 : wrap64 (Int.tdiv t g.f1) = t / g.f1 := by rw [e1]; unfold wrap64; omega
  have w2 : wrap64 (t / g.f1 * g.f1) = t - t % g.f1 := by rw [Int.mul_comm]; unfold wrap64; omega
  rw [w1, w2]
  have hs : stN g t q - g.f1 = t - t % g.f1 := by
    unfold stN
    rw [Int.mul_add, Int.mul_one]
    omega
  have := down_ref hg h0 h1 q q8 qf q 29 (by omega) (by omega)
  rw [hs, Nat.sub_self, startL, List.reverse_nil] at this
  rw [this]
  unfold startsP
  rw [qw, Int.toNat_natCast]
include hg h0 h1 in
theorem startsRef_calls (w : World) : Calls Try.prog 27 #[gridV g, .int .i64 t] w fun e w' => ∃ v0_ : Value, e = .returned (.tuple #[v0_, .int .i64 0]) ∧ Kd.R (Kd.int .i64) 3 w' w.heap.size (fun _ => True) v0_ (startsP g t) ∧ Below w.heap.size w w' :=
  headgateref14_Starts.calls 30 g.f0 g.f1 g.f2 t (startsP g t) 0 w (starts_ref hg h0 h1)
include hg h0 h1 in
/-- The latest beginning is one: a moment behind all of whose windows the mark is stands ahead of the mark. -/
theorem starts_last : t - t % g.f1 ∈ startsP g t := by
  obtain ⟨g0, g1, g2, g3, g4, g5, g6, g7⟩ := chkG_spec hg
  obtain ⟨m0, m1, m2, m3⟩ := t_mod hg h0
  obtain ⟨q, q1, q8, qf, qw⟩ := grid_q hg
  have mem : ∀ (k i : Nat), i + k = q → 1 ≤ k → t - t % g.f1 ∈ startL g t k (i : Int) := by
    intro k
    induction k with
    | zero => intro i _ h; omega
    | succ k ih =>
      intro i hi _
      by_cases hk : k = 0
      · subst hk
        have hs : stAt g t (i : Int) = t - t % g.f1 := by
          rw [stAt_eq hg h0 h1 i (by omega)]
          unfold stN
          rw [show (i : Int) + 1 = (q : Int) by omega]
          omega
        rw [startL, hs, if_pos (by omega)]
        exact List.mem_cons_self
      · have := ih (i + 1) (by omega) (by omega)
        rw [startL]
        split
        · exact List.mem_cons_of_mem _ this
        · exact this
  unfold startsP
  rw [qw, Int.toNat_natCast]
  exact mem q 0 (by omega) q1
end
/-! ### The law -/
/-- Is one of a moment's windows not closed? -/
def openB (g : S23) (t m : Int) : Bool := (startsP g t).any (fun a => !closedP g a m)
theorem keep_open (g : S23) (t m : Int) (h : openB g t m = false) : keepI g m (startsP g t) = [] := by
  unfold openB at h
  unfold keepI
  rw [List.filter_eq_nil_iff]
  intro a ha hb
  rw [List.any_eq_false] at h
  exact h a ha hb
theorem mark_open {g : S23} {t m : Int} (hg : chkG g = true) (h0 : 0 ≤ t) (h1 : t ≤ 1099511627776) (hm : m ≤ 1099511627776) (h : openB g t m = false) : mx m t = m := by
  obtain ⟨g0, g1, g2, g3, g4, g5, g6, g7⟩ := chkG_spec hg
  obtain ⟨m0, m1, m2, m3⟩ := t_mod hg h0
  unfold openB at h
  rw [List.any_eq_false] at h
  have hc := h _ (starts_last hg h0 h1)
  have hcl : closedP g (t - t % g.f1) m = true := by
    cases hb : closedP g (t - t % g.f1) m with
    | true => rfl
    | false => rw [hb] at hc; exact absurd rfl hc
  unfold closedP at hcl
  rw [hg] at hcl
  simp only [Bool.true_and, Bool.and_eq_true, decide_eq_true_eq] at hcl
  have w : wrap64 (wrap64 (m - g.f0) - g.f2) = m - g.f0 - g.f2 := by unfold wrap64; omega
  rw [w] at hcl
  unfold mx
  omega
theorem filter_open {g : S23} {s : S28} (h : Inv g s) : s.f4.filter (fun c => !closedP g c.f1 s.f0) = s.f4 ∧ s.f4.filter (fun c => closedP g c.f1 s.f0) = [] := by
  refine ⟨List.filter_eq_self.2 (fun c hc => by rw [h.op c hc]; rfl), List.filter_eq_nil_iff.2 (fun c hc => by rw [h.op c hc]; decide)⟩
/-- What is left of a state by a record that is bad, or late. -/
def lateS (s : S28) (ok : Bool) : S28 := ⟨s.f0, if ok = true then s.f1 + 1 else s.f1, if ok = true then s.f2 else s.f2 + 1, s.f3 + 1, s.f4⟩
theorem late_law {g : S23} {s : S28} {r : S50} (h : Inv g s) (hn : s.f3 < 1000000) (k0 : 0 ≤ r.f0) (k1 : r.f0 ≤ 1048576) (h0 : 0 ≤ r.f1) (h1 : r.f1 ≤ 1099511627776) :
    (feedP g s r).2.2 = 0 ∧ (((valP r.f2).2 && openB g r.f1 s.f0) = true → (feedP g s r).1.f2 = s.f2 ∧ (feedP g s r).1.f3 = s.f3 + 1) ∧
    (((valP r.f2).2 && openB g r.f1 s.f0) = false → feedP g s r = (lateS s (valP r.f2).2, [], 0)) := by
  have hc : (checkP g s && ([r.f0, r.f1].all inB && !decide (r.f0 > 1048576))) = true := by
    rw [inv_check h]
    simp only [List.all_cons, List.all_nil, Bool.and_true, Bool.true_and]
    rw [inB_of k0 (by omega), inB_of h0 h1, decide_eq_false (by omega)]
    rfl
  have hN := h.n0
  have hL := h.late
  have hB := h.bad
  have hLB := h.lb
  have hm := h.mark
  have w3 : wrap64 (s.f3 + 1) = s.f3 + 1 := by unfold wrap64; omega
  have w2 : wrap64 (s.f2 + 1) = s.f2 + 1 := by unfold wrap64; omega
  have w1 : wrap64 (s.f1 + 1) = s.f1 + 1 := by unfold wrap64; omega
  unfold feedP
  rw [if_pos hc, if_neg (by omega)]
  cases hv : (valP r.f2).2 with
  | false =>
    rw [if_neg (by decide)]
    refine ⟨rfl, fun hx => by simp at hx, fun _ => ?_⟩
    rw [w2, w3]
    rfl
  | true =>
    rw [if_pos rfl]
    refine ⟨rfl, fun _ => ⟨rfl, w3⟩, fun hx => ?_⟩
    rw [Bool.true_and] at hx
    rw [keep_open g r.f1 s.f0 hx]
    have hfo := filter_open h
    simp only [List.length_nil, decide_true, Bool.true_or, if_true]
    rw [mark_open h.grid h0 h1 (by omega) hx, hfo.1, hfo.2, w1, w3]
    rfl
/-- What a record must be. -/
theorem mayRec_ref (r : S50) : headgateref06_MayRecord.f r.f0 r.f1 r.f2 = some (decide (0 ≤ r.f0 ∧ r.f0 ≤ 1048576 ∧ 0 ≤ r.f1 ∧ r.f1 ≤ 1099511627776 ∧ r.f2.size ≤ 512)) := by
  unfold headgateref06_MayRecord.f
  by_cases a : r.f0 ≥ 0
  · rw [if_pos a]
    by_cases b : r.f0 ≤ 1048576
    · rw [if_pos b]
      unfold headgateref06_In.f
      by_cases c : r.f1 ≥ 0
      · rw [if_pos c, Option.bind_some]
        by_cases d : r.f1 ≤ 1099511627776
        · rw [decide_eq_true d, if_pos rfl]
          congr 1
          rw [Bool.eq_iff_iff]
          simp only [decide_eq_true_eq]
          omega
        · rw [decide_eq_false d, if_neg (by decide)]
          congr 1
          rw [eq_comm, decide_eq_false_iff_not]
          omega
      · rw [if_neg c, Option.bind_some, if_neg (by decide)]
        congr 1
        rw [eq_comm, decide_eq_false_iff_not]
        omega
    · rw [if_neg b]
      congr 1
      rw [eq_comm, decide_eq_false_iff_not]
      omega
  · rw [if_neg a]
    congr 1
    rw [eq_comm, decide_eq_false_iff_not]
    omega
end Go.Proofs.Ytgipepjpkmlmaaa.P
