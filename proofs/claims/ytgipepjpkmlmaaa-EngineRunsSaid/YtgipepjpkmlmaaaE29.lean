import Derived.Test.YtgipepjpkmlmaaaE28
namespace Go.Proofs.Ytgipepjpkmlmaaa.P
open Go.RowKit Go.Proofs.YtgipepjpkmlmaaaW.PrintWords Go.Proofs.YtgipepjpkmlmaaaW.PrintLast Go.Proofs.YtgipepjpkmlmaaaW.PrintMore
set_option linter.unusedVariables false
set_option linter.unusedSimpArgs false

def putL (w : World) (g : Nat) : Nat → List Value → World
  | _, [] => w
  | o, v :: vs => putL (w.setCell ⟨g, o, none⟩ v) g (o + 1) vs
theorem putL_other {g k : Nat} (h : k ≠ g) : ∀ (vs : List Value) (o : Nat) (w : World), (putL w g o vs).heap[k]? = w.heap[k]?
  | [], o, w => rfl
  | v :: vs, o, w => (putL_other h vs (o + 1) _).trans (heap_setCell_other w (⟨g, o, none⟩ : Addr) k v h)
def put12 (w : World) (g : Nat) (a0 a1 a2 a3 a4 a5 a6 a7 a8 a9 a10 a11 : Value) : World := ((((((((((((w.setCell ⟨g, 0, none⟩ a0).setCell ⟨g, 1, none⟩ a1).setCell ⟨g, 2, none⟩ a2).setCell ⟨g, 3, none⟩ a3).setCell ⟨g, 4, none⟩ a4).setCell ⟨g, 5, none⟩ a5).setCell ⟨g, 6, none⟩ a6).setCell ⟨g, 7, none⟩ a7).setCell ⟨g, 8, none⟩ a8).setCell ⟨g, 9, none⟩ a9).setCell ⟨g, 10, none⟩ a10).setCell ⟨g, 11, none⟩ a11)
theorem put12_heap {w : World} {g : Nat} {b0 b1 b2 b3 b4 b5 b6 b7 b8 b9 b10 b11 : Value} (h : w.heap[g]? = some (.cells #[b0, b1, b2, b3, b4, b5, b6, b7, b8, b9, b10, b11] 46 (0, 0))) (a0 a1 a2 a3 a4 a5 a6 a7 a8 a9 a10 a11 : Value) : (put12 w g a0 a1 a2 a3 a4 a5 a6 a7 a8 a9 a10 a11).heap[g]? = some (.cells #[a0, a1, a2, a3, a4, a5, a6, a7, a8, a9, a10, a11] 46 (0, 0)) := by
  unfold put12
  have g0 := blk_put (cs' := #[a0, b1, b2, b3, b4, b5, b6, b7, b8, b9, b10, b11]) h 0 a0 rfl
  have g1 := blk_put (cs' := #[a0, a1, b2, b3, b4, b5, b6, b7, b8, b9, b10, b11]) g0 1 a1 rfl
  have g2 := blk_put (cs' := #[a0, a1, a2, b3, b4, b5, b6, b7, b8, b9, b10, b11]) g1 2 a2 rfl
  have g3 := blk_put (cs' := #[a0, a1, a2, a3, b4, b5, b6, b7, b8, b9, b10, b11]) g2 3 a3 rfl
  have g4 := blk_put (cs' := #[a0, a1, a2, a3, a4, b5, b6, b7, b8, b9, b10, b11]) g3 4 a4 rfl
  have g5 := blk_put (cs' := #[a0, a1, a2, a3, a4, a5, b6, b7, b8, b9, b10, b11]) g4 5 a5 rfl
  have g6 := blk_put (cs' := #[a0, a1, a2, a3, a4, a5, a6, b7, b8, b9, b10, b11]) g5 6 a6 rfl
  have g7 := blk_put (cs' := #[a0, a1, a2, a3, a4, a5, a6, a7, b8, b9, b10, b11]) g6 7 a7 rfl
  have g8 := blk_put (cs' := #[a0, a1, a2, a3, a4, a5, a6, a7, a8, b9, b10, b11]) g7 8 a8 rfl
  have g9 := blk_put (cs' := #[a0, a1, a2, a3, a4, a5, a6, a7, a8, a9, b10, b11]) g8 9 a9 rfl
  have g10 := blk_put (cs' := #[a0, a1, a2, a3, a4, a5, a6, a7, a8, a9, a10, b11]) g9 10 a10 rfl
  have g11 := blk_put (cs' := #[a0, a1, a2, a3, a4, a5, a6, a7, a8, a9, a10, a11]) g10 11 a11 rfl
  exact g11
theorem put12_other {w : World} {g k : Nat} (h : k ≠ g) (a0 a1 a2 a3 a4 a5 a6 a7 a8 a9 a10 a11 : Value) : (put12 w g a0 a1 a2 a3 a4 a5 a6 a7 a8 a9 a10 a11).heap[k]? = w.heap[k]? := by
  have e : put12 w g a0 a1 a2 a3 a4 a5 a6 a7 a8 a9 a10 a11 = putL w g 0 [a0, a1, a2, a3, a4, a5, a6, a7, a8, a9, a10, a11] := rfl
  rw [e]
  exact putL_other h _ _ _
theorem put12_below {B g : Nat} {w0 w : World} (h : Below B w0 w) (hg : B ≤ g) (a0 a1 a2 a3 a4 a5 a6 a7 a8 a9 a10 a11 : Value) : Below B w0 (put12 w g a0 a1 a2 a3 a4 a5 a6 a7 a8 a9 a10 a11) := by
  unfold put12
  exact ((((((((((((h.setCell hg _).setCell hg _).setCell hg _).setCell hg _).setCell hg _).setCell hg _).setCell hg _).setCell hg _).setCell hg _).setCell hg _).setCell hg _).setCell hg _)
def put10 (w : World) (g : Nat) (a2 a3 a4 a5 a6 a7 a8 a9 a10 a11 : Value) : World := ((((((((((w.setCell ⟨g, 2, none⟩ a2).setCell ⟨g, 3, none⟩ a3).setCell ⟨g, 4, none⟩ a4).setCell ⟨g, 5, none⟩ a5).setCell ⟨g, 6, none⟩ a6).setCell ⟨g, 7, none⟩ a7).setCell ⟨g, 8, none⟩ a8).setCell ⟨g, 9, none⟩ a9).setCell ⟨g, 10, none⟩ a10).setCell ⟨g, 11, none⟩ a11)
theorem put10_heap {w : World} {g : Nat} {b0 b1 b2 b3 b4 b5 b6 b7 b8 b9 b10 b11 : Value} (h : w.heap[g]? = some (.cells #[b0, b1, b2, b3, b4, b5, b6, b7, b8, b9, b10, b11] 46 (0, 0))) (a2 a3 a4 a5 a6 a7 a8 a9 a10 a11 : Value) : (put10 w g a2 a3 a4 a5 a6 a7 a8 a9 a10 a11).heap[g]? = some (.cells #[b0, b1, a2, a3, a4, a5, a6, a7, a8, a9, a10, a11] 46 (0, 0)) := by
  unfold put10
  have g0 := blk_put (cs' := #[b0, b1, a2, b3, b4, b5, b6, b7, b8, b9, b10, b11]) h 2 a2 rfl
  have g1 := blk_put (cs' := #[b0, b1, a2, a3, b4, b5, b6, b7, b8, b9, b10, b11]) g0 3 a3 rfl
  have g2 := blk_put (cs' := #[b0, b1, a2, a3, a4, b5, b6, b7, b8, b9, b10, b11]) g1 4 a4 rfl
  have g3 := blk_put (cs' := #[b0, b1, a2, a3, a4, a5, b6, b7, b8, b9, b10, b11]) g2 5 a5 rfl
  have g4 := blk_put (cs' := #[b0, b1, a2, a3, a4, a5, a6, b7, b8, b9, b10, b11]) g3 6 a6 rfl
  have g5 := blk_put (cs' := #[b0, b1, a2, a3, a4, a5, a6, a7, b8, b9, b10, b11]) g4 7 a7 rfl
  have g6 := blk_put (cs' := #[b0, b1, a2, a3, a4, a5, a6, a7, a8, b9, b10, b11]) g5 8 a8 rfl
  have g7 := blk_put (cs' := #[b0, b1, a2, a3, a4, a5, a6, a7, a8, a9, b10, b11]) g6 9 a9 rfl
  have g8 := blk_put (cs' := #[b0, b1, a2, a3, a4, a5, a6, a7, a8, a9, a10, b11]) g7 10 a10 rfl
  have g9 := blk_put (cs' := #[b0, b1, a2, a3, a4, a5, a6, a7, a8, a9, a10, a11]) g8 11 a11 rfl
  exact g9
theorem put10_other {w : World} {g k : Nat} (h : k ≠ g) (a2 a3 a4 a5 a6 a7 a8 a9 a10 a11 : Value) : (put10 w g a2 a3 a4 a5 a6 a7 a8 a9 a10 a11).heap[k]? = w.heap[k]? := by
  have e : put10 w g a2 a3 a4 a5 a6 a7 a8 a9 a10 a11 = putL w g 2 [a2, a3, a4, a5, a6, a7, a8, a9, a10, a11] := rfl
  rw [e]
  exact putL_other h _ _ _
theorem put10_below {B g : Nat} {w0 w : World} (h : Below B w0 w) (hg : B ≤ g) (a2 a3 a4 a5 a6 a7 a8 a9 a10 a11 : Value) : Below B w0 (put10 w g a2 a3 a4 a5 a6 a7 a8 a9 a10 a11) := by
  unfold put10
  exact ((((((((((h.setCell hg _).setCell hg _).setCell hg _).setCell hg _).setCell hg _).setCell hg _).setCell hg _).setCell hg _).setCell hg _).setCell hg _)
/-! ### What the reference's put leaves -/
theorem put_place (l : List S46) (x : S46) (hs : srt l) (i : Nat) (hi : i ≤ l.length) (h1 : ∀ m, m < i → ltC (rd_T46 l (m : Int)) x) (h2 : i < l.length → ¬ ltC (rd_T46 l (i : Int)) x) :
    bsI l x = i ∧ (i < l.length → aheadB x (rd_T46 l (i : Int)) = !bsF l x) ∧ (bsF l x = true → i < l.length) := by
  obtain ⟨s1, s2⟩ := bsI_spec l x hs
  obtain ⟨p1, p2⟩ := place l x hs
  have hle : bsI l x ≤ l.length := bsL_le l x (l.length + 1) 0 l.length (Nat.zero_le _)
  have e : bsI l x = i := by
    rcases Nat.lt_trichotomy (bsI l x) i with h | h | h
    · exact absurd (h1 _ h) (s2 _ (Nat.le_refl _) (by omega))
    · exact h
    · exact absurd (s1 _ h) (h2 (by omega))
  rw [e] at p1 p2
  refine ⟨e, fun hl => ?_, fun hf => (p1 hf).1⟩
  cases hf : bsF l x with
  | true =>
    have hk := (p1 hf).2
    unfold keyC at hk
    injection hk with k1 k2
    show aheadB x _ = false
    rw [Bool.eq_false_iff]
    intro h
    have := (aheadB_iff _ _).1 h
    unfold ltC at this
    omega
  | false =>
    have hp := p2 hf
    show aheadB x _ = true
    rw [aheadB_iff, rd_get l i hl]
    rw [List.pairwise_append] at hp
    have hp2 := hp.2.1
    rw [List.drop_eq_getElem_cons hl, List.pairwise_cons] at hp2
    exact hp2.1 _ List.mem_cons_self
theorem take_put (key v t : Int) (l : List S46) (i : Nat) (hi : bsI l ⟨key, t, z44⟩ = i) (hil : i ≤ l.length) (hf : bsF l ⟨key, t, z44⟩ = true → i < l.length) (y : S46) (hy : y = if bsF l ⟨key, t, z44⟩ = true then rd_T46 l (i : Int) else ⟨key, t, z44⟩)
    (j : Nat) (hj : j = if bsF l ⟨key, t, z44⟩ = true then i + 1 else i) : takeS key v t l = l.take i ++ [⟨y.f0, y.f1, addP y.f2 v⟩] ++ l.drop j := by
  unfold takeS
  simp only [hi]
  cases hb : bsF l ⟨key, t, z44⟩ with
  | true =>
    rw [hb, if_pos rfl] at hy hj
    rw [if_pos rfl, ← hy, List.set_eq_take_append_cons_drop, if_pos (hf hb), hj]
    simp
  | false =>
    rw [hb, if_neg (by decide)] at hy hj
    rw [if_neg (by decide)]
    have hlen : (l.take i).length = i := by rw [List.length_take]; omega
    have hrd : rd_T46 (l.take i ++ (⟨key, t, z44⟩ : S46) :: l.drop i) (i : Int) = ⟨key, t, z44⟩ := by
      rw [rd_get _ i (by simp; omega)]
      rw [List.getElem_append_right (by omega)]
      simp [hlen]
    rw [hrd, List.set_append_right _ _ (by omega), hlen, Nat.sub_self, List.set_cons_zero, hj, hy]
    simp
theorem cut46_C {w : World} {A : Option Addr} {xs : List S46} {m c : Nat} (h : k46.C w A xs.length xs) (hm : m ≤ xs.length) (hc : xs.length ≤ c) : k46.C w (if c = m then A else A.map (·.add (m * 12))) (xs.drop m).length (xs.drop m) := by
  have hl : (xs.drop m).length = xs.length - m := List.length_drop
  refine ⟨rfl, by rw [hl]; have := h.2.1; omega, fun hp => ?_⟩
  rw [hl] at hp
  obtain ⟨ad, rfl, hcell⟩ := h.2.2 (by omega)
  rw [if_neg (by omega)]
  refine ⟨ad.add (m * 12), rfl, fun j p hj => ?_⟩
  rw [List.getElem?_drop] at hj
  obtain ⟨cs, h1, h2, h3⟩ := hcell (m + j) p hj
  refine ⟨cs, h1, h2, fun i u hu => ?_⟩
  have e : k46.sz = 12 := rfl
  rw [e] at h3 ⊢
  rw [add_add, show m * 12 + (j * 12 + i) = (m + j) * 12 + i by omega]
  exact h3 i u hu
end Go.Proofs.Ytgipepjpkmlmaaa.P
