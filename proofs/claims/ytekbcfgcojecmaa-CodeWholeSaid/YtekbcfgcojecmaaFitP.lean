import Derived.Test.YtekbcfgcojecmaaBetD
import Derived.Test.YtekbcfgcojecmaaCodeSize
namespace Go.Proofs.Ytekbcfgcojecmaa.P
open Go.RowKit Go.Proofs.YtekbcfgcojecmaaW.PrintWords Go.Proofs.YtekbcfgcojecmaaW.PrintLast Go.Proofs.YtekbcfgcojecmaaW.PrintMore
set_option linter.unusedVariables false
set_option linter.unusedSimpArgs false
/-- An instruction that may stand at a place, by given heights. -/
structure Ok1 (G : Nat → Int) (x : S54) (j e : Nat) (m : Int) : Prop where
  good : (eff x.f0 x.f1).2.2 = true
  low : 0 ≤ G j
  high : G j ≤ m
  enough : tk x ≤ G j
  room : G j - tk x + pt x ≤ m
  there : jmp x = true → (j : Int) < x.f1 ∧ x.f1 ≤ (e : Int) ∧ G x.f1.toNat = G j - tk x + pt x
  next : x.f0 ≠ 30 → G (j + 1) = G j - tk x + pt x
theorem Ok1.turn {G G' : Nat → Int} {x : S54} {j e e' : Nat} {m m' : Int} (h : Ok1 G x j e m) (hj : j < e) (hG : ∀ p, j ≤ p → p ≤ e → G' p = G p) (he : e ≤ e') (hm : m ≤ m') : Ok1 G' x j e' m' := by
  have h0 := hG j (Nat.le_refl _) (by omega)
  refine ⟨h.good, by rw [h0]; exact h.low, by rw [h0]; exact Int.le_trans h.high hm, by rw [h0]; exact h.enough, by rw [h0]; exact Int.le_trans h.room hm, fun c => ?_, fun c => ?_⟩
  · have := h.there c
    rw [h0, hG _ (by omega) (by omega)]
    exact ⟨this.1, by omega, this.2.2⟩
  · rw [h0, hG _ (by omega) (by omega)]
    exact h.next c
def SegOk (G : Nat → Int) (c : List S54) (a e : Nat) (m : Int) : Prop := ∀ j, j < c.length → Ok1 G (c.getD j z54) (a + j) e m
theorem SegOk.append {G : Nat → Int} {c d : List S54} {a e : Nat} {m : Int} (h : SegOk G c a e m) (h' : SegOk G d (a + c.length) e m) : SegOk G (c ++ d) a e m := by
  intro j hj
  rw [List.length_append] at hj
  by_cases q : j < c.length
  · rw [show (c ++ d).getD j z54 = c.getD j z54 by simp [List.getD_eq_getElem?_getD, List.getElem?_append_left q]]
    exact h j q
  · have := h' (j - c.length) (by omega)
    rw [show a + c.length + (j - c.length) = a + j by omega] at this
    rw [show (c ++ d).getD j z54 = d.getD (j - c.length) z54 by simp [List.getD_eq_getElem?_getD, List.getElem?_append_right (show c.length ≤ j by omega)]]
    exact this
theorem SegOk.single {G : Nat → Int} {x : S54} {a e : Nat} {m : Int} (h : Ok1 G x a e m) : SegOk G [x] a e m := by
  intro j hj
  obtain rfl : j = 0 := by simpa using hj
  exact h
/-- Code that fits at a place. -/
def Fits (c : List S54) (a : Nat) (h m : Int) : Prop := ∃ G : Nat → Int, G a = h ∧ G (a + c.length) = h + 1 ∧ SegOk G c a (a + c.length) m
theorem SegOk.turn {G G' : Nat → Int} {c : List S54} {a e' : Nat} {m m' : Int} (h : SegOk G c a (a + c.length) m) (hG : ∀ p, a ≤ p → p ≤ a + c.length → G' p = G p) (he : a + c.length ≤ e') (hm : m ≤ m') : SegOk G' c a e' m' :=
  fun j hj => (h j hj).turn (by omega) (fun p h1 h2 => hG p (by omega) h2) he hm
theorem fits_leaf (op n : Int) (h : 1 ≤ op ∧ op ≤ 4) (hn : op = 1 ∨ n = 0) (a : Nat) (b m : Int) (hb : 0 ≤ b) (hm : b + 1 ≤ m) : Fits [⟨op, n⟩] a b m := by
  have e : eff op n = (0, 1, true) := by
    unfold eff
    rw [if_pos h]
    congr 2
    rcases hn with rfl | rfl <;> simp
  refine ⟨fun p => if p = a then b else b + 1, if_pos rfl, if_neg (by simp), SegOk.single ⟨by rw [e], ?_, ?_, ?_, ?_, fun c => ?_, fun _ => ?_⟩⟩
  · simp; omega
  · simp; omega
  · simp [tk, e]; omega
  · simp [tk, pt, e]; omega
  · simp [jmp] at c; omega
  · simp [tk, pt, e]
theorem eff_one {op : Int} (h : op = 5 ∨ op = 6) : eff op 0 = (1, 1, true) := by rcases h with rfl | rfl <;> rfl
theorem eff_two {op : Int} (h : 7 ≤ op ∧ op ≤ 17 ∨ op = 20 ∨ op = 21) : eff op 0 = (2, 1, true) := by
  unfold eff
  rw [if_neg (by omega), if_neg (by omega), if_pos h]
  rfl
theorem fits_one {op : Int} (h : op = 5 ∨ op = 6) {c : List S54} {a : Nat} {b m m' : Int} (f : Fits c a b m) (hb : 0 ≤ b) (hm : m ≤ m') (hm2 : b + 1 ≤ m') : Fits (c ++ [⟨op, 0⟩]) a b m' := by
  obtain ⟨G, g0, g1, gs⟩ := f
  have e := eff_one h
  obtain ⟨A, hA⟩ : ∃ A, A = a + c.length := ⟨_, rfl⟩
  have GG : ∀ p, p ≤ A → (fun p => if p ≤ A then G p else b + 1) p = G p := fun p h => if_pos h
  have GE : ∀ p, A < p → (fun p => if p ≤ A then G p else b + 1) p = b + 1 := fun p h => if_neg (by omega)
  revert GG GE
  generalize (fun p => if p ≤ A then G p else b + 1) = W
  intro GG GE
  have ez : (c ++ [(⟨op, 0⟩ : S54)]).length = c.length + 1 := by simp
  have wA : W (a + c.length) = b + 1 := by rw [GG _ (by omega), g1]
  have wE : W (a + c.length + 1) = b + 1 := GE _ (by omega)
  refine ⟨W, by rw [GG a (by omega), g0], by rw [ez]; exact wE, ?_⟩
  rw [ez]
  refine SegOk.append (gs.turn (fun p h1 h2 => GG p (by omega)) (by omega) hm) (SegOk.single ⟨by rw [e], ?_, ?_, ?_, ?_, fun c => ?_, fun _ => ?_⟩)
  · rw [wA]; omega
  · rw [wA]; omega
  · rw [wA]; simp only [tk, e]; omega
  · rw [wA]; simp only [tk, pt, e]; omega
  · simp [jmp] at c; omega
  · simp only [tk, pt, e]; rw [wE, wA]; omega
theorem fits_two {op : Int} (h : 7 ≤ op ∧ op ≤ 17 ∨ op = 20 ∨ op = 21) {c d : List S54} {a : Nat} {b m m2 m' : Int} (f : Fits c a b m) (f' : Fits d (a + c.length) (b + 1) m2) (hb : 0 ≤ b) (hm : m ≤ m') (hm2 : m2 ≤ m') (hm3 : b + 2 ≤ m') : Fits (c ++ d ++ [⟨op, 0⟩]) a b m' := by
  obtain ⟨G, g0, g1, gs⟩ := f
  obtain ⟨F, k0, k1, ks⟩ := f'
  have e := eff_two h
  obtain ⟨A, hA⟩ : ∃ A, A = a + c.length := ⟨_, rfl⟩
  obtain ⟨B, hB⟩ : ∃ B, B = a + c.length + d.length := ⟨_, rfl⟩
  have GG : ∀ p, p < A → (fun p => if p < A then G p else if p ≤ B then F p else b + 1) p = G p := fun p h => if_pos h
  have GF : ∀ p, A ≤ p → p ≤ B → (fun p => if p < A then G p else if p ≤ B then F p else b + 1) p = F p := fun p h h' => by simp only; rw [if_neg (by omega), if_pos h']
  have GE : ∀ p, B < p → (fun p => if p < A then G p else if p ≤ B then F p else b + 1) p = b + 1 := fun p h => by simp only; rw [if_neg (by omega), if_neg (by omega)]
  revert GG GF GE
  generalize (fun p => if p < A then G p else if p ≤ B then F p else b + 1) = W
  intro GG GF GE
  have ez : (c ++ d ++ [(⟨op, 0⟩ : S54)]).length = c.length + d.length + 1 := by simp; omega
  have wA : W (a + c.length) = b + 1 := by rw [GF _ (by omega) (by omega), k0]
  have wB : W (a + (c.length + d.length)) = b + 2 := by rw [← Nat.add_assoc, GF _ (by omega) (by omega), k1]; omega
  have wE : W (a + (c.length + d.length) + 1) = b + 1 := GE _ (by omega)
  have Gall : ∀ p, a ≤ p → p ≤ a + c.length → W p = G p := fun p h1 h2 => by
    by_cases q : p < A
    · exact GG p q
    · obtain rfl : p = a + c.length := by omega
      rw [wA, g1]
  refine ⟨W, by rw [Gall a (by omega) (by omega), g0], by rw [ez]; exact wE, ?_⟩
  rw [ez]
  refine SegOk.append (SegOk.append (gs.turn Gall (by omega) hm) (ks.turn (fun p h1 h2 => GF p (by omega) (by omega)) (by omega) hm2)) ?_
  rw [List.length_append]
  refine SegOk.single ⟨by rw [e], ?_, ?_, ?_, ?_, fun c => ?_, fun _ => ?_⟩
  · rw [wB]; omega
  · rw [wB]; omega
  · rw [wB]; simp only [tk, e]; omega
  · rw [wB]; simp only [tk, pt, e]; omega
  · simp [jmp] at c; omega
  · simp only [tk, pt, e]; rw [wE, wB]; omega
theorem fits_if {c d u : List S54} {a : Nat} {b m1 m2 m3 m' : Int} (f : Fits c a b m1) (f' : Fits d (a + c.length + 1) b m2) (f2 : Fits u (a + c.length + d.length + 2) b m3) (hb : 0 ≤ b) (h1 : m1 ≤ m') (h2 : m2 ≤ m') (h3 : m3 ≤ m') (h4 : b + 1 ≤ m') :
    Fits (c ++ [⟨31, ((a + c.length + d.length + 2 : Nat) : Int)⟩] ++ d ++ [⟨30, ((a + c.length + d.length + u.length + 2 : Nat) : Int)⟩] ++ u) a b m' := by
  obtain ⟨G, g0, g1, gs⟩ := f
  obtain ⟨F, k0, k1, ks⟩ := f'
  obtain ⟨E, e0, e1, es⟩ := f2
  obtain ⟨A, hA⟩ : ∃ A, A = a + c.length := ⟨_, rfl⟩
  obtain ⟨B, hB⟩ : ∃ B, B = a + c.length + 1 + d.length := ⟨_, rfl⟩
  have GG : ∀ p, p ≤ A → (fun p => if p ≤ A then G p else if p ≤ B then F p else E p) p = G p := fun p h => if_pos h
  have GF : ∀ p, A < p → p ≤ B → (fun p => if p ≤ A then G p else if p ≤ B then F p else E p) p = F p := fun p h h' => by simp only; rw [if_neg (by omega), if_pos h']
  have GE : ∀ p, B < p → (fun p => if p ≤ A then G p else if p ≤ B then F p else E p) p = E p := fun p h => by simp only; rw [if_neg (by omega), if_neg (by omega)]
  revert GG GF GE
  generalize (fun p => if p ≤ A then G p else if p ≤ B then F p else E p) = W
  intro GG GF GE
  have ez : (c ++ [(⟨31, ((a + c.length + d.length + 2 : Nat) : Int)⟩ : S54)] ++ d ++ [(⟨30, ((a + c.length + d.length + u.length + 2 : Nat) : Int)⟩ : S54)] ++ u).length = c.length + d.length + u.length + 2 := by simp; omega
  refine ⟨W, by rw [GG a (by omega), g0], ?_, ?_⟩
  · rw [ez, GE _ (by omega), show a + (c.length + d.length + u.length + 2) = a + c.length + d.length + 2 + u.length by omega, e1]
  · rw [ez]
    have wA : W (a + c.length) = b + 1 := by rw [GG _ (by omega), g1]
    have wA1 : W (a + c.length + 1) = b := by rw [GF _ (by omega) (by omega), k0]
    have wB : W (a + c.length + 1 + d.length) = b + 1 := by rw [GF _ (by omega) (by omega), k1]
    have wB1 : W (a + c.length + d.length + 2) = b := by rw [GE _ (by omega), e0]
    have wE : W (a + c.length + d.length + u.length + 2) = b + 1 := by rw [GE _ (by omega), show a + c.length + d.length + u.length + 2 = a + c.length + d.length + 2 + u.length by omega, e1]
    refine SegOk.append (SegOk.append (SegOk.append (SegOk.append ?_ ?_) ?_) ?_) ?_
    · exact gs.turn (fun p h1 h2 => GG p (by omega)) (by omega) h1
    · refine SegOk.single ⟨rfl, ?_, ?_, ?_, ?_, fun _ => ⟨?_, ?_, ?_⟩, fun _ => ?_⟩
      · rw [wA]; omega
      · rw [wA]; omega
      · rw [wA]; simp only [tk, eff31]; omega
      · rw [wA]; simp only [tk, pt, eff31]; omega
      · simp only; omega
      · simp only; omega
      · simp only [tk, pt, eff31, Int.toNat_natCast]; rw [wB1, wA]; omega
      · simp only [tk, pt, eff31]; rw [wA1, wA]; omega
    · rw [show a + (c ++ [(⟨31, ((a + c.length + d.length + 2 : Nat) : Int)⟩ : S54)]).length = a + c.length + 1 by simp; omega]
      exact ks.turn (fun p h1 h2 => GF p (by omega) (by omega)) (by omega) h2
    · rw [show a + (c ++ [(⟨31, ((a + c.length + d.length + 2 : Nat) : Int)⟩ : S54)] ++ d).length = a + c.length + 1 + d.length by simp; omega]
      refine SegOk.single ⟨rfl, ?_, ?_, ?_, ?_, fun _ => ⟨?_, ?_, ?_⟩, fun c => absurd rfl c⟩
      · rw [wB]; omega
      · rw [wB]; omega
      · rw [wB]; simp only [tk, eff30]; omega
      · rw [wB]; simp only [tk, pt, eff30]; omega
      · simp only; omega
      · simp only; omega
      · simp only [tk, pt, eff30, Int.toNat_natCast]; rw [wE, wB]; omega
    · rw [show a + (c ++ [(⟨31, ((a + c.length + d.length + 2 : Nat) : Int)⟩ : S54)] ++ d ++ [(⟨30, ((a + c.length + d.length + u.length + 2 : Nat) : Int)⟩ : S54)]).length = a + c.length + d.length + 2 by simp; omega]
      exact es.turn (fun p h1 h2 => GE p (by omega)) (by omega) h3
theorem fits_and {c d : List S54} {a : Nat} {b m1 m2 m' : Int} (f : Fits c a b m1) (f' : Fits d (a + c.length + 1) b m2) (hb : 0 ≤ b) (h1 : m1 ≤ m') (h2 : m2 ≤ m') (h4 : b + 1 ≤ m') :
    Fits (c ++ [⟨31, ((a + c.length + d.length + 3 : Nat) : Int)⟩] ++ d ++ [⟨32, 0⟩] ++ [⟨30, ((a + c.length + d.length + 4 : Nat) : Int)⟩] ++ [⟨1, 0⟩]) a b m' := by
  obtain ⟨G, g0, g1, gs⟩ := f
  obtain ⟨F, k0, k1, ks⟩ := f'
  obtain ⟨A, hA⟩ : ∃ A, A = a + c.length := ⟨_, rfl⟩
  obtain ⟨B, hB⟩ : ∃ B, B = a + c.length + 1 + d.length := ⟨_, rfl⟩
  have GG : ∀ p, p ≤ A → (fun p => if p ≤ A then G p else if p ≤ B then F p else if p = B + 2 then b else b + 1) p = G p := fun p h => if_pos h
  have GF : ∀ p, A < p → p ≤ B → (fun p => if p ≤ A then G p else if p ≤ B then F p else if p = B + 2 then b else b + 1) p = F p := fun p h h' => by simp only; rw [if_neg (by omega), if_pos h']
  have GN : ∀ p, p = B + 2 → (fun p => if p ≤ A then G p else if p ≤ B then F p else if p = B + 2 then b else b + 1) p = b := fun p h => by simp only; rw [if_neg (by omega), if_neg (by omega), if_pos h]
  have GE : ∀ p, B < p → p ≠ B + 2 → (fun p => if p ≤ A then G p else if p ≤ B then F p else if p = B + 2 then b else b + 1) p = b + 1 := fun p h h' => by simp only; rw [if_neg (by omega), if_neg (by omega), if_neg h']
  revert GG GF GN GE
  generalize (fun p => if p ≤ A then G p else if p ≤ B then F p else if p = B + 2 then b else b + 1) = W
  intro GG GF GN GE
  have ez : (c ++ [(⟨31, ((a + c.length + d.length + 3 : Nat) : Int)⟩ : S54)] ++ d ++ [(⟨32, 0⟩ : S54)] ++ [(⟨30, ((a + c.length + d.length + 4 : Nat) : Int)⟩ : S54)] ++ [(⟨1, 0⟩ : S54)]).length = c.length + d.length + 4 := by simp; omega
  have wA : W (a + c.length) = b + 1 := by rw [GG _ (by omega), g1]
  have wA1 : W (a + c.length + 1) = b := by rw [GF _ (by omega) (by omega), k0]
  have wB : W (a + c.length + 1 + d.length) = b + 1 := by rw [GF _ (by omega) (by omega), k1]
  have wB1 : W (a + c.length + 1 + d.length + 1) = b + 1 := GE _ (by omega) (by omega)
  have wN : W (a + c.length + d.length + 3) = b := GN _ (by omega)
  have wE : W (a + c.length + d.length + 4) = b + 1 := GE _ (by omega) (by omega)
  refine ⟨W, by rw [GG a (by omega), g0], ?_, ?_⟩
  · rw [ez, show a + (c.length + d.length + 4) = a + c.length + d.length + 4 by omega, wE]
  · rw [ez]
    refine SegOk.append (SegOk.append (SegOk.append (SegOk.append (SegOk.append ?_ ?_) ?_) ?_) ?_) ?_
    · exact gs.turn (fun p h1 h2 => GG p (by omega)) (by omega) h1
    · refine SegOk.single ⟨rfl, ?_, ?_, ?_, ?_, fun _ => ⟨?_, ?_, ?_⟩, fun _ => ?_⟩
      · rw [wA]; omega
      · rw [wA]; omega
      · rw [wA]; simp only [tk, eff31]; omega
      · rw [wA]; simp only [tk, pt, eff31]; omega
      · simp only; omega
      · simp only; omega
      · simp only [tk, pt, eff31, Int.toNat_natCast]; rw [wN, wA]; omega
      · simp only [tk, pt, eff31]; rw [wA1, wA]; omega
    · rw [show a + (c ++ [(⟨31, ((a + c.length + d.length + 3 : Nat) : Int)⟩ : S54)]).length = a + c.length + 1 by simp; omega]
      exact ks.turn (fun p h1 h2 => GF p (by omega) (by omega)) (by omega) h2
    · rw [show a + (c ++ [(⟨31, ((a + c.length + d.length + 3 : Nat) : Int)⟩ : S54)] ++ d).length = a + c.length + 1 + d.length by simp; omega]
      refine SegOk.single ⟨rfl, ?_, ?_, ?_, ?_, fun c => absurd c (by decide), fun _ => ?_⟩
      · rw [wB]; omega
      · rw [wB]; omega
      · rw [wB]; simp only [tk, eff32]; omega
      · rw [wB]; simp only [tk, pt, eff32]; omega
      · simp only [tk, pt, eff32]; rw [wB1, wB]; omega
    · rw [show a + (c ++ [(⟨31, ((a + c.length + d.length + 3 : Nat) : Int)⟩ : S54)] ++ d ++ [(⟨32, 0⟩ : S54)]).length = a + c.length + 1 + d.length + 1 by simp; omega]
      refine SegOk.single ⟨rfl, ?_, ?_, ?_, ?_, fun _ => ⟨?_, ?_, ?_⟩, fun c => absurd rfl c⟩
      · rw [wB1]; omega
      · rw [wB1]; omega
      · rw [wB1]; simp only [tk, eff30]; omega
      · rw [wB1]; simp only [tk, pt, eff30]; omega
      · simp only; omega
      · simp only; omega
      · simp only [tk, pt, eff30, Int.toNat_natCast]; rw [wE, wB1]; omega
    · rw [show a + (c ++ [(⟨31, ((a + c.length + d.length + 3 : Nat) : Int)⟩ : S54)] ++ d ++ [(⟨32, 0⟩ : S54)] ++ [(⟨30, ((a + c.length + d.length + 4 : Nat) : Int)⟩ : S54)]).length = a + c.length + d.length + 3 by simp; omega]
      refine SegOk.single ⟨rfl, ?_, ?_, ?_, ?_, fun c => absurd c (by decide), fun _ => ?_⟩
      · rw [wN]; omega
      · rw [wN]; omega
      · rw [wN]; simp only [tk, eff1]; omega
      · rw [wN]; simp only [tk, pt, eff1]; omega
      · simp only [tk, pt, eff1]; rw [show a + c.length + d.length + 3 + 1 = a + c.length + d.length + 4 by omega, wE, wN]; omega
theorem fits_or {c d : List S54} {a : Nat} {b m1 m2 m' : Int} (f : Fits c a b m1) (f' : Fits d (a + c.length + 3) b m2) (hb : 0 ≤ b) (h1 : m1 ≤ m') (h2 : m2 ≤ m') (h4 : b + 1 ≤ m') :
    Fits (c ++ [⟨31, ((a + c.length + 3 : Nat) : Int)⟩] ++ [⟨1, 1⟩] ++ [⟨30, ((a + c.length + d.length + 4 : Nat) : Int)⟩] ++ d ++ [⟨32, 0⟩]) a b m' := by
  obtain ⟨G, g0, g1, gs⟩ := f
  obtain ⟨F, k0, k1, ks⟩ := f'
  obtain ⟨A, hA⟩ : ∃ A, A = a + c.length := ⟨_, rfl⟩
  obtain ⟨B, hB⟩ : ∃ B, B = a + c.length + 3 + d.length := ⟨_, rfl⟩
  have GG : ∀ p, p ≤ A → (fun p => if p ≤ A then G p else if p = A + 1 then b else if p = A + 2 then b + 1 else if p ≤ B then F p else b + 1) p = G p := fun p h => if_pos h
  have G1 : ∀ p, p = A + 1 → (fun p => if p ≤ A then G p else if p = A + 1 then b else if p = A + 2 then b + 1 else if p ≤ B then F p else b + 1) p = b := fun p h => by simp only; rw [if_neg (by omega), if_pos h]
  have G2 : ∀ p, p = A + 2 → (fun p => if p ≤ A then G p else if p = A + 1 then b else if p = A + 2 then b + 1 else if p ≤ B then F p else b + 1) p = b + 1 := fun p h => by simp only; rw [if_neg (by omega), if_neg (by omega), if_pos h]
  have GF : ∀ p, A + 2 < p → p ≤ B → (fun p => if p ≤ A then G p else if p = A + 1 then b else if p = A + 2 then b + 1 else if p ≤ B then F p else b + 1) p = F p := fun p h h' => by simp only; rw [if_neg (by omega), if_neg (by omega), if_neg (by omega), if_pos h']
  have GE : ∀ p, B < p → (fun p => if p ≤ A then G p else if p = A + 1 then b else if p = A + 2 then b + 1 else if p ≤ B then F p else b + 1) p = b + 1 := fun p h => by simp only; rw [if_neg (by omega), if_neg (by omega), if_neg (by omega), if_neg (by omega)]
  revert GG G1 G2 GF GE
  generalize (fun p => if p ≤ A then G p else if p = A + 1 then b else if p = A + 2 then b + 1 else if p ≤ B then F p else b + 1) = W
  intro GG G1 G2 GF GE
  have ez : (c ++ [(⟨31, ((a + c.length + 3 : Nat) : Int)⟩ : S54)] ++ [(⟨1, 1⟩ : S54)] ++ [(⟨30, ((a + c.length + d.length + 4 : Nat) : Int)⟩ : S54)] ++ d ++ [(⟨32, 0⟩ : S54)]).length = c.length + d.length + 4 := by simp; omega
  have wA : W (a + c.length) = b + 1 := by rw [GG _ (by omega), g1]
  have wA1 : W (a + c.length + 1) = b := G1 _ (by omega)
  have wA2 : W (a + c.length + 1 + 1) = b + 1 := G2 _ (by omega)
  have wA3 : W (a + c.length + 3) = b := by rw [GF _ (by omega) (by omega), k0]
  have wB : W (a + c.length + 3 + d.length) = b + 1 := by rw [GF _ (by omega) (by omega), k1]
  have wE : W (a + c.length + d.length + 4) = b + 1 := GE _ (by omega)
  refine ⟨W, by rw [GG a (by omega), g0], ?_, ?_⟩
  · rw [ez, show a + (c.length + d.length + 4) = a + c.length + d.length + 4 by omega, wE]
  · rw [ez]
    refine SegOk.append (SegOk.append (SegOk.append (SegOk.append (SegOk.append ?_ ?_) ?_) ?_) ?_) ?_
    · exact gs.turn (fun p h1 h2 => GG p (by omega)) (by omega) h1
    · refine SegOk.single ⟨rfl, ?_, ?_, ?_, ?_, fun _ => ⟨?_, ?_, ?_⟩, fun _ => ?_⟩
      · rw [wA]; omega
      · rw [wA]; omega
      · rw [wA]; simp only [tk, eff31]; omega
      · rw [wA]; simp only [tk, pt, eff31]; omega
      · simp only; omega
      · simp only; omega
      · simp only [tk, pt, eff31, Int.toNat_natCast]; rw [wA3, wA]; omega
      · simp only [tk, pt, eff31]; rw [wA1, wA]; omega
    · rw [show a + (c ++ [(⟨31, ((a + c.length + 3 : Nat) : Int)⟩ : S54)]).length = a + c.length + 1 by simp; omega]
      refine SegOk.single ⟨rfl, ?_, ?_, ?_, ?_, fun c => absurd c (by decide), fun _ => ?_⟩
      · rw [wA1]; omega
      · rw [wA1]; omega
      · rw [wA1]; simp only [tk, eff1]; omega
      · rw [wA1]; simp only [tk, pt, eff1]; omega
      · simp only [tk, pt, eff1]; rw [wA2, wA1]; omega
    · rw [show a + (c ++ [(⟨31, ((a + c.length + 3 : Nat) : Int)⟩ : S54)] ++ [(⟨1, 1⟩ : S54)]).length = a + c.length + 1 + 1 by simp; omega]
      refine SegOk.single ⟨rfl, ?_, ?_, ?_, ?_, fun _ => ⟨?_, ?_, ?_⟩, fun c => absurd rfl c⟩
      · rw [wA2]; omega
      · rw [wA2]; omega
      · rw [wA2]; simp only [tk, eff30]; omega
      · rw [wA2]; simp only [tk, pt, eff30]; omega
      · simp only; omega
      · simp only; omega
      · simp only [tk, pt, eff30, Int.toNat_natCast]; rw [wE, wA2]; omega
    · rw [show a + (c ++ [(⟨31, ((a + c.length + 3 : Nat) : Int)⟩ : S54)] ++ [(⟨1, 1⟩ : S54)] ++ [(⟨30, ((a + c.length + d.length + 4 : Nat) : Int)⟩ : S54)]).length = a + c.length + 3 by simp; omega]
      exact ks.turn (fun p h1 h2 => GF p (by omega) (by omega)) (by omega) h2
    · rw [show a + (c ++ [(⟨31, ((a + c.length + 3 : Nat) : Int)⟩ : S54)] ++ [(⟨1, 1⟩ : S54)] ++ [(⟨30, ((a + c.length + d.length + 4 : Nat) : Int)⟩ : S54)] ++ d).length = a + c.length + 3 + d.length by simp; omega]
      refine SegOk.single ⟨rfl, ?_, ?_, ?_, ?_, fun c => absurd c (by decide), fun _ => ?_⟩
      · rw [wB]; omega
      · rw [wB]; omega
      · rw [wB]; simp only [tk, eff32]; omega
      · rw [wB]; simp only [tk, pt, eff32]; omega
      · simp only [tk, pt, eff32]; rw [show a + c.length + 3 + d.length + 1 = a + c.length + d.length + 4 by omega, wE, wB]; omega
theorem hOk_fits {c : List S54} {m : Int} (f : Fits c 0 0 m) (h0 : 0 < c.length) (h1 : c.length ≤ 1024) (hm : m ≤ 64) (hm1 : 1 ≤ m) : hOk c = true := by
  obtain ⟨G, g0, g1, gs⟩ := f
  rw [Nat.zero_add] at g1 gs
  have at_ : ∀ j, j < c.length → Ok1 G (rd_T54 c (j : Int)) j c.length m := fun j hj => by
    have := gs j hj
    rw [Nat.zero_add] at this
    have e : rd_T54 c (j : Int) = c.getD j z54 := by simp [rd_T54]
    rw [e]
    exact this
  refine hOk_of (R := fun j => j ≤ c.length) (G := G) ⟨Nat.zero_le _, g0, by rw [g1]; rfl, fun j hj => ?_, fun j hj => ?_, fun j hj => ?_, fun j hj _ => (at_ j hj).enough, fun j hj _ => Int.le_trans (at_ j hj).room hm, fun j hj _ q => ?_, fun j hj _ q => ⟨by omega, (at_ j hj).next q⟩⟩ h0 h1
  · have h := at_ j hj
    unfold okAt
    simp only
    rw [h.good, Bool.true_and]
    cases q : jmp (rd_T54 c (j : Int)) with
    | false => rfl
    | true =>
      have := h.there q
      simp
      omega
  · by_cases q : j < c.length
    · exact (at_ j q).low
    · rw [show j = c.length by omega, g1]; omega
  · by_cases q : j < c.length
    · exact Int.le_trans (at_ j q).high hm
    · rw [show j = c.length by omega, g1]; omega
  · have := (at_ j hj).there q
    exact ⟨by omega, this.2.2⟩
end Go.Proofs.Ytekbcfgcojecmaa.P
