import Derived.Test.YtekbcfgcojecmaaF35
import Derived.Test.YtekbcfgcojecmaaF14
import Derived.Lib.Hide
import Derived.Test.YtekbcfgcojecmaaF16
import Derived.Test.YtekbcfgcojecmaaF29
namespace Go.Proofs.Ytekbcfgcojecmaa.P
set_option linter.unusedVariables false
set_option linter.unusedSimpArgs false
section
open Go.RowKit Go.Proofs.YtekbcfgcojecmaaW.PrintWords Go.Proofs.YtekbcfgcojecmaaW.PrintLast Go.Proofs.YtekbcfgcojecmaaW.PrintMore
abbrev tk (x : S54) : Int := (eff x.f0 x.f1).1
abbrev pt (x : S54) : Int := (eff x.f0 x.f1).2.1
/-- A labelling of the places of code with heights. -/
structure Lab (l : List S54) (R : Nat → Prop) (G : Nat → Int) : Prop where
  z : R 0
  z0 : G 0 = 0
  last : G l.length = 1
  ok : ∀ j, j < l.length → okAt l j = true
  low : ∀ j, R j → 0 ≤ G j
  high : ∀ j, R j → G j ≤ 64
  enough : ∀ j, j < l.length → R j → tk (rd_T54 l (j : Int)) ≤ G j
  room : ∀ j, j < l.length → R j → G j - tk (rd_T54 l (j : Int)) + pt (rd_T54 l (j : Int)) ≤ 64
  there : ∀ j, j < l.length → R j → jmp (rd_T54 l (j : Int)) = true → R (rd_T54 l (j : Int)).f1.toNat ∧ G (rd_T54 l (j : Int)).f1.toNat = G j - tk (rd_T54 l (j : Int)) + pt (rd_T54 l (j : Int))
  next : ∀ j, j < l.length → R j → (rd_T54 l (j : Int)).f0 ≠ 30 → R (j + 1) ∧ G (j + 1) = G j - tk (rd_T54 l (j : Int)) + pt (rd_T54 l (j : Int))
theorem lab_of_good {l : List S54} {H : List Int} (g : Good l H) : Lab l (fun j => 0 ≤ rd H (j : Int)) (fun j => rd H (j : Int)) := by
  have tp : ∀ j : Nat, j < l.length → jmp (rd_T54 l (j : Int)) = true → (((rd_T54 l (j : Int)).f1.toNat : Nat) : Int) = (rd_T54 l (j : Int)).f1 := fun j hj c => by
    have := okAt_jump (g.ok j hj) c
    omega
  have nn : ∀ j : Nat, tk (rd_T54 l (j : Int)) ≤ rd H (j : Int) → 0 ≤ rd H (j : Int) - tk (rd_T54 l (j : Int)) + pt (rd_T54 l (j : Int)) := fun j h => by
    have := eff_bounds (rd_T54 l (j : Int)).f0 (rd_T54 l (j : Int)).f1
    simp only [tk, pt] at h ⊢
    omega
  refine ⟨by have := g.inv.zero; simpa using Int.le_of_eq this.symm, by simpa using g.inv.zero, g.last, g.ok, fun j h => h, fun j _ => g.inv.high j, fun j hj h => (g.inv.step j hj h).enough, fun j hj h => (g.inv.step j hj h).room, fun j hj h c => ?_, fun j hj h c => ?_⟩
  · have h1 := (g.inv.step j hj h).there c
    have h2 := nn j (g.inv.step j hj h).enough
    simp only [tp j hj c]
    simp only [tk, pt] at h2 ⊢
    exact ⟨by omega, h1⟩
  · have h1 := (g.inv.step j hj h).next c
    have h2 := nn j (g.inv.step j hj h).enough
    simp only [tk, pt] at h2 ⊢
    push_cast
    exact ⟨by omega, h1⟩
/-- What the heights are while they are found. -/
structure Part (l : List S54) (R : Nat → Prop) (G : Nat → Int) (i : Nat) (h : List Int) : Prop where
  len : h.length = l.length + 1
  fits : ∀ q : Nat, q ≤ l.length → 0 ≤ rd h (q : Int) → R q ∧ rd h (q : Int) = G q
  some_ : ∃ q : Nat, i ≤ q ∧ q ≤ l.length ∧ 0 ≤ rd h (q : Int)
theorem note_fits {l : List S54} {R : Nat → Prop} {G : Nat → Int} {h : List Int} {p : Nat} {n : Int} (hl : h.length = l.length + 1) (hp : p ≤ l.length) (hR : R p) (hG : G p = n) (hn : 0 ≤ n) (f : ∀ q : Nat, q ≤ l.length → 0 ≤ rd h (q : Int) → R q ∧ rd h (q : Int) = G q) :
    rd (noteH h p n) (p : Int) = n ∧ ∀ q : Nat, q ≤ l.length → 0 ≤ rd (noteH h p n) (q : Int) → R q ∧ rd (noteH h p n) (q : Int) = G q := by
  have e := rd_noteH h p n (by omega)
  refine ⟨?_, fun q hq h0 => ?_⟩
  · rw [e p]
    by_cases c : rd h (p : Int) < 0
    · rw [if_pos ⟨rfl, c⟩]
    · rw [if_neg (fun x => c x.2), (f p hp (by omega)).2, hG]
  · rw [e q] at h0 ⊢
    by_cases c : q = p ∧ rd h (p : Int) < 0
    · rw [if_pos c]
      obtain ⟨rfl, _⟩ := c
      exact ⟨hR, hG.symm⟩
    · rw [if_neg c] at h0 ⊢
      exact f q hq h0
theorem step_part {l : List S54} {R : Nat → Prop} {G : Nat → Int} (L : Lab l R G) {i : Nat} {h : List Int} (hi : i < l.length) (P : Part l R G i h) : ∃ h', hStep l i h = some h' ∧ Part l R G (i + 1) h' := by
  have hok := okAt_jump (L.ok i hi)
  have b := eff_bounds (rd_T54 l (i : Int)).f0 (rd_T54 l (i : Int)).f1
  unfold hStep
  simp only
  by_cases c0 : rd h (i : Int) < 0
  · rw [if_pos c0]
    obtain ⟨q, h1, h2, h3⟩ := P.some_
    have : q ≠ i := fun e => by subst e; omega
    exact ⟨h, rfl, P.len, P.fits, q, by omega, h2, h3⟩
  · rw [if_neg c0]
    obtain ⟨hR, hG⟩ := P.fits i (by omega) (by omega)
    have e1 := L.enough i hi hR
    have e2 := L.room i hi hR
    have e3 := L.high i hR
    have e4 := L.there i hi hR
    have e5 := L.next i hi hR
    simp only [tk, pt] at e1 e2 e4 e5
    have hn : wrap64 (wrap64 (rd h (i : Int) - (eff (rd_T54 l (i : Int)).f0 (rd_T54 l (i : Int)).f1).1) + (eff (rd_T54 l (i : Int)).f0 (rd_T54 l (i : Int)).f1).2.1) = G i - (eff (rd_T54 l (i : Int)).f0 (rd_T54 l (i : Int)).f1).1 + (eff (rd_T54 l (i : Int)).f0 (rd_T54 l (i : Int)).f1).2.1 := by
      rw [hG]; unfold wrap64; omega
    rw [hn, hG, if_neg (by omega)]
    have hn0 : 0 ≤ G i - (eff (rd_T54 l (i : Int)).f0 (rd_T54 l (i : Int)).f1).1 + (eff (rd_T54 l (i : Int)).f0 (rd_T54 l (i : Int)).f1).2.1 := by omega
    clear hn e2
    revert e4 e5 hn0
    generalize G i - (eff (rd_T54 l (i : Int)).f0 (rd_T54 l (i : Int)).f1).1 + (eff (rd_T54 l (i : Int)).f0 (rd_T54 l (i : Int)).f1).2.1 = n
    intro e4 e5 hn0
    -- behind the jump
    obtain ⟨h1, eh1, hl1, hf1, hj1⟩ : ∃ h1, h1 = (if jmp (rd_T54 l (i : Int)) = true then noteH h (rd_T54 l (i : Int)).f1.toNat n else h) ∧ h1.length = l.length + 1 ∧ (∀ q : Nat, q ≤ l.length → 0 ≤ rd h1 (q : Int) → R q ∧ rd h1 (q : Int) = G q) ∧ (jmp (rd_T54 l (i : Int)) = true → rd h1 (rd_T54 l (i : Int)).f1 = n) := by
      refine ⟨_, rfl, ?_⟩
      by_cases c : jmp (rd_T54 l (i : Int)) = true
      · rw [if_pos c]
        have hb := hok c
        have hx := note_fits P.len (by omega) (e4 c).1 (e4 c).2 hn0 P.fits
        refine ⟨by rw [length_noteH]; exact P.len, hx.2, fun _ => ?_⟩
        have := hx.1
        rw [show (((rd_T54 l (i : Int)).f1.toNat : Nat) : Int) = (rd_T54 l (i : Int)).f1 by omega] at this
        exact this
      · rw [if_neg c]
        exact ⟨P.len, P.fits, fun h => absurd h c⟩
    rw [← eh1]
    rw [if_neg (by cases c : jmp (rd_T54 l (i : Int)) with
      | false => simp
      | true => simp [hj1 c])]
    by_cases c3 : (rd_T54 l (i : Int)).f0 = 30
    · rw [if_pos c3]
      have cj : jmp (rd_T54 l (i : Int)) = true := by unfold jmp; rw [c3]; rfl
      have hb := hok cj
      exact ⟨h1, rfl, hl1, hf1, (rd_T54 l (i : Int)).f1.toNat, by omega, by omega, by rw [show (((rd_T54 l (i : Int)).f1.toNat : Nat) : Int) = (rd_T54 l (i : Int)).f1 by omega, hj1 cj]; exact hn0⟩
    · rw [if_neg c3]
      have hx := note_fits hl1 (by omega) (e5 c3).1 (e5 c3).2 hn0 hf1
      have h4 : rd (noteH h1 (i + 1) n) ((i : Int) + 1) = n := hx.1
      rw [if_neg (by simp [h4])]
      exact ⟨_, rfl, by rw [length_noteH]; exact hl1, hx.2, i + 1, Nat.le_refl _, by omega, by rw [hx.1]; exact hn0⟩
theorem all_part {l : List S54} {R : Nat → Prop} {G : Nat → Int} (L : Lab l R G) : ∀ (k i : Nat) (h : List Int), i + k = l.length → Part l R G i h → ∃ h', hAll l k i h = some h' ∧ Part l R G l.length h' := by
  intro k
  induction k with
  | zero => intro i h hi P; exact ⟨h, rfl, by rw [← hi]; exact P⟩
  | succ k ih =>
    intro i h hi P
    obtain ⟨h1, e, P1⟩ := step_part L (by omega) P
    obtain ⟨h2, e2, P2⟩ := ih (i + 1) h1 (by omega) P1
    exact ⟨h2, by simp only [hAll]; rw [e]; exact e2, P2⟩
theorem okFrom_of {l : List S54} : ∀ (k i : Nat), (∀ j, i ≤ j → j < i + k → okAt l j = true) → okFrom l k i = true := by
  intro k
  induction k with
  | zero => intro i _; rfl
  | succ k ih =>
    intro i h
    simp only [okFrom, Bool.and_eq_true]
    exact ⟨h i (Nat.le_refl _) (by omega), ih (i + 1) (fun j h1 h2 => h j (by omega) (by omega))⟩
/-- Code that can be labelled may be. -/
theorem hOk_of {l : List S54} {R : Nat → Prop} {G : Nat → Int} (L : Lab l R G) (h0 : 0 < l.length) (h1 : l.length ≤ 1024) : hOk l = true := by
  unfold hOk
  rw [if_neg (by omega), hRun_eq, okFrom_of _ _ (fun j _ hj => L.ok j (by omega)), Bool.true_and]
  have e : ∀ j : Nat, j ≤ l.length → rd (0 :: List.replicate l.length (-1)) (j : Int) = if j = 0 then 0 else -1 := by
    intro j hj
    cases j with
    | zero => rfl
    | succ j =>
      unfold rd
      simp only [Int.toNat_natCast, List.getD_eq_getElem?_getD, List.getElem?_cons_succ, List.getElem?_replicate]
      rw [if_pos (by omega)]
      rfl
  obtain ⟨h', e1, P⟩ := all_part L l.length 0 (0 :: List.replicate l.length (-1)) (by omega) ⟨by simp, fun q hq hq0 => by
      rw [e q hq] at hq0 ⊢
      by_cases c : q = 0
      · subst c; exact ⟨L.z, L.z0.symm⟩
      · rw [if_neg c] at hq0; omega, 0, Nat.le_refl _, Nat.zero_le _, by rw [e 0 (by omega)]; decide⟩
  rw [e1]
  obtain ⟨q, q1, q2, q3⟩ := P.some_
  obtain rfl : q = l.length := by omega
  simp only [endOk]
  rw [(P.fits _ (Nat.le_refl _) q3).2, L.last]
  rfl
theorem hOk_len {l : List S54} (h : hOk l = true) : 0 < l.length ∧ l.length ≤ 1024 := by
  unfold hOk at h
  split at h
  · cases h
  · omega
theorem onward_of {l : List S54} (h : hOk l = true) : Onward l := by
  obtain ⟨H, g⟩ := good_of_hOk h
  exact fun j hj c => okAt_jump (g.ok j hj) c
/-! ### Some instructions fewer -/
theorem rd_get {l : List S54} {j : Nat} (h : j < l.length) : rd_T54 l (j : Int) = l[j] := by simp [rd_T54, List.getD, List.getElem?_eq_getElem h]
theorem drop_length {l : List S54} {a n : Nat} (h : a + n ≤ l.length) : (dropC l a n).length = l.length - n := by unfold dropC; simp; omega
/-- Where an instruction stood. -/
def old (a n j : Nat) : Nat := if j < a then j else j + n
theorem drop_rd {l : List S54} {a n : Nat} (h : a + n ≤ l.length) {j : Nat} (hj : j < l.length - n) : rd_T54 (dropC l a n) (j : Int) = shiftC (a : Int) (n : Int) (rd_T54 l ((old a n j : Nat) : Int)) := by
  have hl := drop_length h
  rw [rd_get (by omega), rd_get (by unfold old; split <;> omega)]
  unfold dropC old
  by_cases c : j < a
  · simp only [List.getElem_map, if_pos c]
    rw [List.getElem_append_left (by simp; omega), List.getElem_take]
  · simp only [List.getElem_map, if_neg c]
    rw [List.getElem_append_right (by simp; omega), List.getElem_drop]
    congr 2
    simp only [List.length_take]
    omega
theorem shift_f0 (a n : Int) (x : S54) : (shiftC a n x).f0 = x.f0 := by unfold shiftC; split <;> rfl
theorem shift_jmp (a n : Int) (x : S54) : jmp (shiftC a n x) = jmp x := by unfold jmp; rw [shift_f0]
theorem shift_eff (a n : Int) (x : S54) : eff (shiftC a n x).f0 (shiftC a n x).f1 = eff x.f0 x.f1 := by
  unfold shiftC
  split
  · rename_i c
    simp only [Bool.and_eq_true, jmp, Bool.or_eq_true, beq_iff_eq] at c
    rcases c.1 with e | e <;> simp only [e] <;> rfl
  · rfl
/-- Where a jump lands. -/
def new (a n j : Nat) : Nat := if j ≤ a then j else max a (j - n)
theorem shift_f1 {a n : Nat} {x : S54} (hx : jmp x = true) (h0 : 0 ≤ x.f1) (h1 : x.f1 ≤ 1000000) (hn : n ≤ 1000000) (ha : a ≤ 1000000) : (shiftC (a : Int) (n : Int) x).f1 = ((new a n x.f1.toNat : Nat) : Int) := by
  have hw : wrap64 (x.f1 - (n : Int)) = x.f1 - (n : Int) := by unfold wrap64; omega
  unfold shiftC new
  rw [hx, Bool.true_and, hw]
  by_cases c : (a : Int) < x.f1
  · rw [if_pos (decide_eq_true c), if_neg (by omega)]
    simp only
    omega
  · rw [if_neg (by simp; omega), if_pos (by omega)]
    omega
/-- What may be left out. -/
structure Skip (l : List S54) (R : Nat → Prop) (G : Nat → Int) (a n : Nat) : Prop where
  pos : 0 < n
  le : a + n ≤ l.length
  same : R a → R (a + n) ∧ G (a + n) = G a
  none_ : ∀ j : Nat, j < l.length → jmp (rd_T54 l (j : Int)) = true → (rd_T54 l (j : Int)).f1 ≤ (a : Int) ∨ ((a + n : Nat) : Int) ≤ (rd_T54 l (j : Int)).f1
theorem old_new {a n j : Nat} (h : j ≤ a ∨ a + n ≤ j) (hn : 0 < n) : old a n (new a n j) = if j = a then a + n else j := by
  unfold old new
  by_cases c : j ≤ a
  · rw [if_pos c]
    by_cases e : j = a
    · subst e; simp
    · rw [if_pos (by omega), if_neg e]
  · rw [if_neg c, if_neg (by omega), if_neg (by omega)]; omega
theorem lab_drop {l : List S54} {R : Nat → Prop} {G : Nat → Int} (L : Lab l R G) (hl : l.length ≤ 1000000) {a n : Nat} (S : Skip l R G a n) : Lab (dropC l a n) (fun j => R (old a n j)) (fun j => G (old a n j)) := by
  have hle := S.le
  have hpos := S.pos
  have hlen := drop_length hle
  have hold : ∀ j, j < l.length - n → old a n j < l.length := fun j hj => by unfold old; split <;> omega
  have hrd : ∀ j, j < l.length - n → rd_T54 (dropC l a n) (j : Int) = shiftC (a : Int) (n : Int) (rd_T54 l ((old a n j : Nat) : Int)) := fun j hj => drop_rd hle hj
  have go : ∀ N : Nat, (N ≤ a ∨ a + n ≤ N) → R N → R (old a n (new a n N)) ∧ G (old a n (new a n N)) = G N := fun N hN hR => by
    rw [old_new hN hpos]
    by_cases e : N = a
    · rw [if_pos e]; subst e; exact S.same hR
    · rw [if_neg e]; exact ⟨hR, rfl⟩
  have hz : R (old a n 0) ∧ G (old a n 0) = G 0 := by
    have := go 0 (by omega) L.z
    rwa [show new a n 0 = 0 by unfold new; simp] at this
  have jb : ∀ j, j < l.length → jmp (rd_T54 l (j : Int)) = true → (j : Int) < (rd_T54 l (j : Int)).f1 ∧ (rd_T54 l (j : Int)).f1 ≤ (l.length : Int) := fun j hj c => okAt_jump (L.ok j hj) c
  refine ⟨hz.1, by rw [hz.2]; exact L.z0, ?_, fun j hj => ?_, fun j h => L.low _ h, fun j h => L.high _ h, fun j hj h => ?_, fun j hj h => ?_, fun j hj h c => ?_, fun j hj h c => ?_⟩
  · rw [hlen]
    have : old a n (l.length - n) = l.length := by unfold old; rw [if_neg (by omega)]; omega
    rw [this]; exact L.last
  · rw [hlen] at hj
    have hx := L.ok _ (hold j hj)
    have hb := jb _ (hold j hj)
    unfold okAt at hx ⊢
    simp only at hx ⊢
    rw [hrd j hj, shift_eff, shift_jmp, hlen]
    rw [Bool.and_eq_true] at hx ⊢
    refine ⟨hx.1, ?_⟩
    cases cj : jmp (rd_T54 l ((old a n j : Nat) : Int)) with
    | false => simp
    | true =>
      have hbb := hb cj
      have hnn := S.none_ _ (hold j hj) cj
      rw [shift_f1 cj (by omega) (by omega) (by omega) (by omega)]
      have h1 : j < new a n (rd_T54 l ((old a n j : Nat) : Int)).f1.toNat ∧ new a n (rd_T54 l ((old a n j : Nat) : Int)).f1.toNat ≤ l.length - n := by
        revert hbb hnn
        generalize (rd_T54 l ((old a n j : Nat) : Int)).f1 = N
        intro hbb hnn
        unfold old at hbb
        unfold new
        split at hbb <;> split <;> omega
      simp
      omega
  · rw [hlen] at hj
    rw [hrd j hj]
    simp only [tk, shift_eff]
    exact L.enough _ (hold j hj) h
  · rw [hlen] at hj
    rw [hrd j hj]
    simp only [tk, pt, shift_eff]
    exact L.room _ (hold j hj) h
  · rw [hlen] at hj
    rw [hrd j hj, shift_jmp] at c
    have hbb := jb _ (hold j hj) c
    have hnn := S.none_ _ (hold j hj) c
    have ht := L.there _ (hold j hj) h c
    rw [hrd j hj, shift_f1 c (by omega) (by omega) (by omega) (by omega)]
    simp only [tk, pt, shift_eff, Int.toNat_natCast] at ht ⊢
    have := go _ (by omega) ht.1
    exact ⟨this.1, by rw [this.2]; exact ht.2⟩
  · rw [hlen] at hj
    rw [hrd j hj, shift_f0] at c
    have ht := L.next _ (hold j hj) h c
    rw [hrd j hj]
    simp only [tk, pt, shift_eff] at ht ⊢
    by_cases cj : j < a
    · rw [show old a n j = j by unfold old; rw [if_pos cj]] at ht h ⊢
      have := go (j + 1) (by omega) ht.1
      rw [show new a n (j + 1) = j + 1 by unfold new; rw [if_pos (by omega)]] at this
      exact ⟨this.1, by rw [this.2]; exact ht.2⟩
    · rw [show old a n j = j + n by unfold old; rw [if_neg cj]] at ht h ⊢
      rw [show old a n (j + 1) = j + n + 1 by unfold old; rw [if_neg (by omega)]; omega]
      exact ht
end
section
open Go.RowKit Go.Maps Go.Proofs.YtekbcfgcojecmaaW.PrintWords Go.Proofs.YtekbcfgcojecmaaW.PrintLast Go.Proofs.YtekbcfgcojecmaaW.PrintMore
def betterN : Nat → List S54 → List S54
  | 0, l => l
  | k + 1, l => match betterC l with
    | some m => betterN k m
    | none => l
/-- What Better asks of all that it comes to. -/
def Keeps (P : List S54 → Prop) : Prop := ∀ l m, P l → betterC l = some m → P m
theorem betterN_some {k : Nat} {l m : List S54} (h : betterC l = some m) : betterN (k + 1) l = betterN k m := by simp only [betterN, h]
theorem betterN_none {k : Nat} {l : List S54} (h : betterC l = none) : betterN k l = l := by cases k <;> simp only [betterN, h]
def BetterEnd (l : List S54) (B : Nat) (w : World) (e : Ending) (w' : World) : Prop := ∃ v, e = .returned (.tuple #[v, .int .i64 0]) ∧ Kd.R k54 54 w' B (fun _ => True) v l ∧ Below B w w'
set_option maxHeartbeats 8000000 in
set_option maxRecDepth 100000 in
theorem betterAll_calls (A : Option Addr) (c : Nat) (l : List S54) (w : World) (hr : Kd.C k54 w A l.length l) (hc : l.length ≤ c) (hO : hOk l = true) (hP : Keeps (fun l => hOk l = true)) :
    Calls Try.prog 21 #[.slice A l.length c] w (BetterEnd (betterN 4096 l) w.heap.size w) := by
  have hll := hOk_len hO
  have hck := check_calls A c l w hr hc
  rw [if_pos hO] at hck
  have hA : A = none → l = [] ∧ c = 0 := by
    obtain ⟨ad, e, _⟩ := at_T54 hr 0 (by omega) (by omega)
    intro h
    rw [h] at e
    cases e
  have HO := Lib.hid hO
  clear hO
  go_enter Try.func21, Try.ntmps21
  go_wp2_with (first | (go_at_call 11; go_loud ((with_reducible refine hck.mono ?_); rintro e w1 ⟨rfl, hb1⟩; have hcl := clone_calls A c l w1 (Kd.C_below hr hb1) hc (by omega) hA)) | (go_at_call 34; go_loud ((with_reducible refine hcl.mono ?_); rintro e w2 ⟨v2, rfl, hR2, hb2⟩; have hR := Kd.R_lower hR2 hb1.size; have hb := below_then hb1 hb1.size hb2; clear hcl hR2 hb2)))
  go_loopg [0, 11] 4096 (fun kq v0 v11 wr => ∃ (i : Nat) (m : List S54), v11 = .int .i64 (i : Int) ∧ i ≤ 4096 ∧ 4096 - i ≤ kq ∧ hOk m = true ∧ betterN (4096 - i) m = betterN 4096 l ∧ Kd.R k54 54 wr w.heap.size (fun _ => True) v0 m ∧ Below w.heap.size w wr)
  case atStart => exact ⟨0, l, rfl, Nat.zero_le _, by omega, HO.out, rfl, hR, hb⟩
  case round =>
    obtain ⟨i, m, rfl, hil, hik, hm, hbn, hRm, hb⟩ := hrel
    obtain ⟨A1, c1, rfl, hlc, hread⟩ := Kd.R_reads hRm
    have hml := hOk_len hm
    by_cases hlt : i < 4096
    rotate_left
    · have d1 : decide ((i : Int) < 4096) = false := decide_eq_false (by omega)
      rw [show 4096 - i = 0 by omega] at hbn
      have hbn' : m = betterN 4096 l := hbn
      clear hbn hm hik
      go_wp2
      go_ret2
      exact ⟨_, rfl, by rw [← hbn']; exact hRm, hb⟩
    have d1 : decide ((i : Int) < 4096) = true := decide_eq_true (by omega)
    have hbt := better_calls A1 c1 m wr hread hlc (by omega) (onward_of hm)
    cases gk with
    | zero => omega
    | succ gk =>
    rw [show 4096 - i = (4096 - (i + 1)) + 1 by omega] at hbn
    have hkeep := hP m
    have HM := Lib.hid hm
    have HN := Lib.hid hbn
    have HK := Lib.hid hkeep
    clear hm hbn hkeep
    cases hbc : betterC m with
    | some m2 =>
      have HC := Lib.hid hbc
      clear hbc
      go_wp2_with (first | (go_at_call 35; go_loud ((with_reducible refine hbt.mono ?_); rintro e w3 (⟨m3, v3, he3, rfl, hR3, hb3⟩ | ⟨he3, rfl, hb3⟩); rotate_left; exact absurd (HC.out.symm.trans he3) (by simp); obtain rfl : m2 = m3 := Option.some.inj (HC.out.symm.trans he3); clear he3)))
      go_roundg gk
      case measure => omega
      case rel => exact ⟨i + 1, m2, by congr 1, by omega, by omega, HK.out _ HM.out HC.out, by rw [← HN.out, betterN_some HC.out], Kd.R_lower hR3 hb.size, below_then hb hb.size hb3⟩
    | none =>
      have HC := Lib.hid hbc
      clear hbc
      go_wp2_with (first | (go_at_call 35; go_loud ((with_reducible refine hbt.mono ?_); rintro e w3 (⟨m3, v3, he3, rfl, hR3, hb3⟩ | ⟨he3, rfl, hb3⟩); exact absurd (HC.out.symm.trans he3) (by simp); clear he3)))
      go_ret2
      exact ⟨_, rfl, by rw [← HN.out, betterN_none HC.out]; exact Kd.R_below hRm hb3, below_then hb hb.size hb3⟩
set_option maxRecDepth 100000 in
theorem betterBad_calls (A : Option Addr) (c : Nat) (l : List S54) (w : World) (hr : Kd.C k54 w A l.length l) (hc : l.length ≤ c) (hO : hOk l = false) :
    Calls Try.prog 21 #[.slice A l.length c] w fun e w' => e = .returned (.tuple #[.slice none 0 0, .int .i64 1]) ∧ Below w.heap.size w w' := by
  have hck := check_calls A c l w hr hc
  rw [hO, if_neg (by decide)] at hck
  clear hO
  go_enter Try.func21, Try.ntmps21
  go_wp2_with (first | (go_at_call 11; go_loud ((with_reducible refine hck.mono ?_); rintro e w1 ⟨rfl, hb1⟩)))
  go_ret2
  exact ⟨rfl, hb1⟩
end
section
open Go.RowKit Go.Proofs.YtekbcfgcojecmaaW.PrintWords Go.Proofs.YtekbcfgcojecmaaW.PrintLast Go.Proofs.YtekbcfgcojecmaaW.PrintMore
/-- It ends with a number. -/
def Ends (ap : Int → Int → Int → Int) (l : List S54) (key time v : Int) (a : Nat) (s : List Int) (r : Int) : Prop := ∃ k, runR ap l key time v k a s = some r
theorem runR_later {ap : Int → Int → Int → Int} {l : List S54} {key time v : Int} : ∀ {k a s r}, runR ap l key time v k a s = some r → ∀ k', k ≤ k' → runR ap l key time v k' a s = some r := by
  intro k
  induction k with
  | zero => intro a s r h; cases h
  | succ k ih =>
    intro a s r h k' hk
    obtain ⟨k', rfl⟩ : ∃ m, k' = m + 1 := ⟨k' - 1, by omega⟩
    simp only [runR] at h ⊢
    split at h
    · rename_i c
      rw [if_pos c]
      obtain ⟨q, h1, h2⟩ := Option.bind_eq_some_iff.1 h
      rw [h1]
      exact ih h2 k' (by omega)
    · rename_i c
      rw [if_neg c]
      exact h
theorem Ends.one {ap : Int → Int → Int → Int} {l : List S54} {key time v : Int} {a s r r'} (h : Ends ap l key time v a s r) (h' : Ends ap l key time v a s r') : r = r' := by
  obtain ⟨k, h⟩ := h
  obtain ⟨k', h'⟩ := h'
  have h1 := runR_later h (k + k') (by omega)
  have h2 := runR_later h' (k + k') (by omega)
  exact Option.some.inj (h1.symm.trans h2)
theorem Ends.of_step {ap : Int → Int → Int → Int} {l : List S54} {key time v : Int} {a b s t r} (ha : a < l.length) (hs : stepR ap l key time v a s = some (b, t)) (h : Ends ap l key time v b t r) : Ends ap l key time v a s r := by
  obtain ⟨k, h⟩ := h
  exact ⟨k + 1, by rw [runR, if_pos ha, hs]; exact h⟩
/-- What code that may be leaves: its own run. -/
theorem ends_good {l : List S54} {H : List Int} (g : Good l H) (ap : Int → Int → Int → Int) (key time v : Int) : ∃ r, runC ap l key time v (l.length + 1) 0 0 (List.replicate 65 0) = some r ∧ Ends ap l key time v 0 [] r := by
  obtain ⟨r, h1, h2⟩ := run_both g ap key time v (l.length + 1) 0 0 (List.replicate 65 0) (by omega) (Nat.zero_le _) (by simpa using g.inv.zero) (by simp)
  exact ⟨r, h1, _, h2⟩
/-- A step of code that may be, on a list. -/
theorem step_list {l : List S54} {H : List Int} (g : Good l H) (ap : Int → Int → Int → Int) (key time v : Int) {a : Nat} {s : List Int} (ha : a < l.length) (hH : rd H (a : Int) = (s.length : Int)) :
    ∃ b t, stepR ap l key time v a s = some (b, t) ∧ a < b ∧ b ≤ l.length ∧ rd H (b : Int) = (t.length : Int) := by
  have hs : s.length ≤ 64 := by have := g.inv.high a; omega
  obtain ⟨b, top, st, h1, h2, h3, h4, h5, h6⟩ := step_both g ap key time v a s.length (s ++ List.replicate (65 - s.length) 0) ha hH (by simp; omega)
  rw [List.take_left] at h2
  have ht : top ≤ 64 := by have := g.inv.high b; omega
  exact ⟨b, st.take top, h2, h4, h5, by rw [h6, List.length_take, Nat.min_eq_left (by omega)]⟩
/-- Where an instruction leads to. -/
theorem step_to {ap : Int → Int → Int → Int} {l : List S54} {key time v : Int} {a b : Nat} {s t : List Int} (h : stepR ap l key time v a s = some (b, t)) :
    (b = a + 1 ∧ (rd_T54 l (a : Int)).f0 ≠ 30) ∨ (jmp (rd_T54 l (a : Int)) = true ∧ b = (rd_T54 l (a : Int)).f1.toNat ∧ (a : Int) < (rd_T54 l (a : Int)).f1) := by
  unfold stepR at h
  simp only at h
  split at h
  · rename_i c; injection h with h; injection h with h _; exact .inl ⟨h.symm, by omega⟩
  split at h
  · rename_i c; injection h with h; injection h with h _; exact .inl ⟨h.symm, by omega⟩
  split at h
  · rename_i c; injection h with h; injection h with h _; exact .inl ⟨h.symm, by omega⟩
  split at h
  · rename_i c; injection h with h; injection h with h _; exact .inl ⟨h.symm, by omega⟩
  split at h
  · rename_i c
    split at h
    · rename_i c2; injection h with h; injection h with h _; exact .inr ⟨by unfold jmp; rw [c]; rfl, h.symm, c2⟩
    · cases h
  split at h
  · rename_i c
    split at h
    · rename_i c2
      injection h with h; injection h with h _
      split at h
      · exact .inr ⟨by unfold jmp; rw [c]; rfl, h.symm, c2.2⟩
      · exact .inl ⟨h.symm, by omega⟩
    · cases h
  split at h
  · rename_i c
    split at h
    · injection h with h; injection h with h _; exact .inl ⟨h.symm, by omega⟩
    · cases h
  split at h
  · rename_i c
    split at h
    · injection h with h; injection h with h _; exact .inl ⟨h.symm, by omega⟩
    · cases h
  · rename_i c0 c1 c2 c3 c4 c5 c6 c7
    split at h
    · injection h with h; injection h with h _; exact .inl ⟨h.symm, by omega⟩
    · cases h
/-- What an instruction that is no jump makes of the numbers. -/
def stk (ap : Int → Int → Int → Int) (key time v : Int) (x : S54) (s : List Int) : Option (List Int) :=
  if x.f0 = 1 then some (s ++ [x.f1]) else if x.f0 = 2 then some (s ++ [key]) else if x.f0 = 3 then some (s ++ [time]) else if x.f0 = 4 then some (s ++ [v])
  else if x.f0 = 32 then (if 1 ≤ s.length then some (s.set (s.length - 1) (ap 13 (rd s ((s.length - 1 : Nat) : Int)) 0)) else none)
  else if x.f0 ≤ 6 then (if 1 ≤ s.length then some (s.set (s.length - 1) (ap x.f0 (rd s ((s.length - 1 : Nat) : Int)) 0)) else none)
  else (if 2 ≤ s.length then some ((s.set (s.length - 2) (ap x.f0 (rd s ((s.length - 2 : Nat) : Int)) (rd s ((s.length - 1 : Nat) : Int)))).take (s.length - 1)) else none)
theorem stk_of (ap : Int → Int → Int → Int) (key time v : Int) (x : S54) (s : List Int) (at_ : Nat) (n30 : ¬ x.f0 = 30) (n31 : ¬ x.f0 = 31) :
    (if x.f0 = 1 then some (at_ + 1, s ++ [x.f1])
  else if x.f0 = 2 then some (at_ + 1, s ++ [key])
  else if x.f0 = 3 then some (at_ + 1, s ++ [time])
  else if x.f0 = 4 then some (at_ + 1, s ++ [v])
  else if x.f0 = 30 then (if (at_ : Int) < x.f1 then some (x.f1.toNat, s) else none)
  else if x.f0 = 31 then (if 1 ≤ s.length ∧ (at_ : Int) < x.f1 then some (if rd s ((s.length - 1 : Nat) : Int) = 0 then x.f1.toNat else at_ + 1, s.take (s.length - 1)) else none)
  else if x.f0 = 32 then (if 1 ≤ s.length then some (at_ + 1, s.set (s.length - 1) (ap 13 (rd s ((s.length - 1 : Nat) : Int)) 0)) else none)
  else if x.f0 ≤ 6 then (if 1 ≤ s.length then some (at_ + 1, s.set (s.length - 1) (ap x.f0 (rd s ((s.length - 1 : Nat) : Int)) 0)) else none)
  else (if 2 ≤ s.length then some (at_ + 1, (s.set (s.length - 2) (ap x.f0 (rd s ((s.length - 2 : Nat) : Int)) (rd s ((s.length - 1 : Nat) : Int)))).take (s.length - 1)) else none))
    = (stk ap key time v x s).map fun t => (at_ + 1, t) := by
  unfold stk
  rw [if_neg n30, if_neg n31]
  split
  · rfl
  split
  · rfl
  split
  · rfl
  split
  · rfl
  split
  · split <;> rfl
  split
  · split <;> rfl
  · split <;> rfl
/-- The same instruction elsewhere, where its jump leads elsewhere. -/
theorem step_moved {ap : Int → Int → Int → Int} {l l' : List S54} {key time v : Int} {a a' b : Nat} {s t : List Int} {f : Nat → Nat} (h : stepR ap l key time v a s = some (b, t))
    (e0 : (rd_T54 l' (a' : Int)).f0 = (rd_T54 l (a : Int)).f0) (e1 : jmp (rd_T54 l (a : Int)) = false → rd_T54 l' (a' : Int) = rd_T54 l (a : Int)) (e2 : jmp (rd_T54 l (a : Int)) = true → (rd_T54 l' (a' : Int)).f1 = ((f (rd_T54 l (a : Int)).f1.toNat : Nat) : Int) ∧ a' < f (rd_T54 l (a : Int)).f1.toNat)
    (e3 : b = a + 1 → (rd_T54 l (a : Int)).f0 ≠ 30 → f (a + 1) = a' + 1) : stepR ap l' key time v a' s = some (f b, t) := by
  have hto := step_to h
  unfold stepR at h ⊢
  simp only at h ⊢
  cases hj : jmp (rd_T54 l (a : Int)) with
  | false =>
    rw [e1 hj]
    have n30 : ¬ (rd_T54 l (a : Int)).f0 = 30 := fun c => by unfold jmp at hj; rw [c] at hj; exact absurd hj (by decide)
    have n31 : ¬ (rd_T54 l (a : Int)).f0 = 31 := fun c => by unfold jmp at hj; rw [c] at hj; exact absurd hj (by decide)
    have hb : b = a + 1 := by
      rcases hto with ⟨h1, _⟩ | ⟨h1, _⟩
      · exact h1
      · rw [hj] at h1; cases h1
    have ef := e3 hb n30
    subst hb
    rw [ef]
    clear hto e0 e1 e2 e3 ef hj
    revert h
    generalize rd_T54 l (a : Int) = x at n30 n31
    intro h
    have e := stk_of ap key time v x s a n30 n31
    rw [e] at h
    rw [stk_of ap key time v x s a' n30 n31]
    cases hk : stk ap key time v x s with
    | none => rw [hk] at h; cases h
    | some t' => rw [hk] at h; injection h with h; injection h with _ h; subst h; rfl
  | true =>
    obtain ⟨g1, g2⟩ := e2 hj
    have hop : (rd_T54 l (a : Int)).f0 = 30 ∨ (rd_T54 l (a : Int)).f0 = 31 := by simpa [jmp] using hj
    rcases hop with c | c
    · rw [c] at h e0
      rw [e0]
      simp only [show ¬ (30 : Int) = 1 by decide, show ¬ (30 : Int) = 2 by decide, show ¬ (30 : Int) = 3 by decide, show ¬ (30 : Int) = 4 by decide, if_true, if_false] at h ⊢
      split at h
      · rename_i c2
        injection h with h; injection h with h1 h2
        rw [g1, if_pos (by omega), ← h1, ← h2, Int.toNat_natCast]
      · cases h
    · rw [c] at h e0
      rw [e0]
      simp only [show ¬ (31 : Int) = 1 by decide, show ¬ (31 : Int) = 2 by decide, show ¬ (31 : Int) = 3 by decide, show ¬ (31 : Int) = 4 by decide, show ¬ (31 : Int) = 30 by decide, if_true, if_false] at h ⊢
      split at h
      · rename_i c2
        injection h with h; injection h with h1 h2
        rw [g1, if_pos ⟨c2.1, by omega⟩, Int.toNat_natCast, ← h2]
        congr 2
        split at h1
        · rename_i c3; rw [if_pos c3, ← h1]
        · rename_i c3; rw [if_neg c3, ← h1, e3 h1.symm (by omega)]
      · cases h
theorem stk_step {ap : Int → Int → Int → Int} {l : List S54} {key time v : Int} {a : Nat} {s : List Int} (hj : jmp (rd_T54 l (a : Int)) = false) : stepR ap l key time v a s = (stk ap key time v (rd_T54 l (a : Int)) s).map fun t => (a + 1, t) := by
  have n30 : ¬ (rd_T54 l (a : Int)).f0 = 30 := fun c => by unfold jmp at hj; rw [c] at hj; exact absurd hj (by decide)
  have n31 : ¬ (rd_T54 l (a : Int)).f0 = 31 := fun c => by unfold jmp at hj; rw [c] at hj; exact absurd hj (by decide)
  exact stk_of ap key time v _ s a n30 n31
/-- Some instructions fewer: it comes to the same. -/
theorem run_drop {ap : Int → Int → Int → Int} {l : List S54} {H : List Int} {key time v : Int} (g : Good l H) (hl : l.length ≤ 1000000) {a n : Nat} (S : Skip l (fun j => 0 ≤ rd H (j : Int)) (fun j => rd H (j : Int)) a n) (Q : List Int → Prop)
    (hQ0 : a = 0 → Q []) (hQ : ∀ j s t, j < l.length → rd H (j : Int) = (s.length : Int) → stepR ap l key time v j s = some (a, t) → Q t)
    (hgo : ∀ s r, rd H (a : Int) = (s.length : Int) → Q s → Ends ap l key time v a s r → Ends ap l key time v (a + n) s r) :
    ∀ (m j : Nat) (s : List Int) (r : Int), l.length - j ≤ m → (j ≤ a ∨ a + n ≤ j) → j ≤ l.length → rd H (j : Int) = (s.length : Int) → (j = a → Q s) → Ends ap l key time v j s r → Ends ap (dropC l a n) key time v (new a n j) s r := by
  have hle := S.le
  have hpos := S.pos
  have hlen := drop_length hle
  intro m
  induction m with
  | zero =>
    intro j s r hm hj hjl hH hq he
    obtain rfl : j = l.length := by omega
    obtain ⟨k, he⟩ := he
    cases k with
    | zero => cases he
    | succ k =>
      simp only [runR] at he
      rw [if_neg (by omega)] at he
      refine ⟨1, ?_⟩
      simp only [runR]
      rw [hlen, if_neg (by unfold new; split <;> omega)]
      exact he
  | succ m ih =>
    intro j s r hm hj hjl hH hq he
    by_cases hjL : j = l.length
    · exact ih j s r (by omega) hj hjl hH hq he
    have hlt : j < l.length := by omega
    have main : ∀ j s r, l.length - j ≤ m + 1 → j < l.length → (j < a ∨ a + n ≤ j) → rd H (j : Int) = (s.length : Int) → Ends ap l key time v j s r → Ends ap (dropC l a n) key time v (new a n j) s r := by
      intro j s r hm hlt hj hH he
      obtain ⟨b, t, hs, h1, h2, h3⟩ := step_list g ap key time v hlt hH
      obtain ⟨k, he⟩ := he
      cases k with
      | zero => cases he
      | succ k =>
      simp only [runR] at he
      rw [if_pos hlt, hs] at he
      have he' : Ends ap l key time v b t r := ⟨k, he⟩
      have hnew : new a n j < l.length - n ∧ old a n (new a n j) = j := by
        unfold new old
        split <;> split <;> omega
      have hrd := drop_rd hle hnew.1
      rw [hnew.2] at hrd
      have hjb := fun c => okAt_jump (g.ok j hlt) c
      have hnn := fun c => S.none_ j hlt c
      have hb : b ≤ a ∨ a + n ≤ b := by
        rcases step_to hs with ⟨rfl, _⟩ | ⟨c, e, _⟩
        · omega
        · have := hjb c; have := hnn c; omega
      have hst : stepR ap (dropC l a n) key time v (new a n j) s = some (new a n b, t) := by
        refine step_moved (f := new a n) hs ?_ ?_ ?_ ?_
        · rw [hrd, shift_f0]
        · intro c
          rw [hrd]
          unfold shiftC
          rw [if_neg (by rw [c]; simp)]
        · intro c
          have h4 := hjb c
          have h5 := hnn c
          rw [hrd, shift_f1 c (by omega) (by omega) (by omega) (by omega)]
          refine ⟨rfl, ?_⟩
          revert h4 h5
          generalize (rd_T54 l (j : Int)).f1 = N
          intro h4 h5
          unfold new
          split <;> split <;> omega
        · intro _ _
          unfold new
          split <;> split <;> omega
      exact Ends.of_step (by rw [hlen]; exact hnew.1) hst (ih b t r (by omega) hb h2 h3 (fun e => hQ j s t hlt hH (by rw [hs, e])) he')
    by_cases hja : j = a
    · subst hja
      have he2 := hgo s r hH (hq rfl) he
      have hs := S.same (by show 0 ≤ rd H (j : Int); omega)
      have hH2 : rd H ((j + n : Nat) : Int) = (s.length : Int) := by rw [← hH]; exact hs.2
      have hnw : new j n j = new j n (j + n) := by unfold new; rw [if_pos (Nat.le_refl _), if_neg (by omega)]; omega
      rw [hnw]
      exact ih (j + n) s r (by omega) (.inr (Nat.le_refl _)) hle hH2 (fun e => by omega) he2
    · exact main j s r hm hlt (by omega) hH he
end
section
open Go.RowKit Go.Proofs.YtekbcfgcojecmaaW.PrintWords Go.Proofs.YtekbcfgcojecmaaW.PrintLast Go.Proofs.YtekbcfgcojecmaaW.PrintMore
theorem Ends.next {ap : Int → Int → Int → Int} {l : List S54} {key time v : Int} {a b : Nat} {s t r} (ha : a < l.length) (hs : stepR ap l key time v a s = some (b, t)) (h : Ends ap l key time v a s r) : Ends ap l key time v b t r := by
  obtain ⟨k, h⟩ := h
  cases k with
  | zero => cases h
  | succ k =>
    simp only [runR] at h
    rw [if_pos ha, hs] at h
    exact ⟨k, h⟩
theorem cnt_zero {l : List S54} {x : Int} (h : cnt l x = 0) {j : Nat} (hj : j < l.length) (c : jmp (rd_T54 l (j : Int)) = true) : (rd_T54 l (j : Int)).f1 ≠ x := by
  intro e
  unfold cnt at h
  rw [List.length_eq_zero_iff, List.filter_eq_nil_iff] at h
  rw [rd_get hj] at c e
  exact h _ (List.getElem_mem hj) (by rw [c, e]; simp)
theorem apS_truth {op a b : Int} (h : truthB op = true) : apS op a b = 0 ∨ apS op a b = 1 := by
  unfold truthB at h
  simp only [Bool.or_eq_true, beq_iff_eq, Bool.and_eq_true, decide_eq_true_eq] at h
  rcases h with rfl | ⟨h1, h2⟩
  · simp [apS]; omega
  · have : op = 12 ∨ op = 13 ∨ op = 14 ∨ op = 15 ∨ op = 16 ∨ op = 17 := by omega
    rcases this with rfl | rfl | rfl | rfl | rfl | rfl <;> simp [apS] <;> omega
theorem apS_same {x : Int} (h : x = 0 ∨ x = 1) : apS 13 x 0 = x := by rcases h with rfl | rfl <;> rfl
theorem eff30 (n : Int) : eff 30 n = (0, 0, true) := rfl
theorem eff31 (n : Int) : eff 31 n = (1, 0, true) := rfl
theorem eff32 (n : Int) : eff 32 n = (1, 1, n == 0) := rfl
theorem eff1 (n : Int) : eff 1 n = (0, 1, true) := rfl
structure CutGood (l : List S54) (H : List Int) (key time v : Int) (a n : Nat) : Prop where
  skip : Skip l (fun j => 0 ≤ rd H (j : Int)) (fun j => rd H (j : Int)) a n
  goes : ∃ Q : List Int → Prop, (a = 0 → Q []) ∧ (∀ j s t, j < l.length → rd H (j : Int) = (s.length : Int) → stepR apS l key time v j s = some (a, t) → Q t) ∧ (∀ s r, rd H (a : Int) = (s.length : Int) → Q s → Ends apS l key time v a s r → Ends apS l key time v (a + n) s r)
theorem snoc_of {s : List Int} (h : 1 ≤ s.length) : ∃ s0 x, s = s0 ++ [x] := ⟨s.dropLast, s.getLast (by intro e; rw [e] at h; simp at h), (List.dropLast_concat_getLast _).symm⟩
theorem cut_good {l : List S54} {H : List Int} (g : Good l H) (hl : l.length ≤ 1000000) (key time v : Int) {i a n : Nat} (hi : i < l.length) (h : cutAt l i = some (a, n)) : CutGood l H key time v a n := by
  have L := lab_of_good g
  unfold cutAt at h
  split at h
  · rename_i c30
    split at h
    · rename_i cn
      injection h with h; injection h with h1 h2
      subst h1 h2
      have cj : jmp (rd_T54 l (i : Int)) = true := by unfold jmp; rw [c30]; rfl
      refine ⟨⟨by decide, by omega, fun hR => ?_, fun j hj c => by omega⟩, fun _ => True, fun _ => trivial, fun _ _ _ _ _ _ => trivial, fun s r _ _ he => ?_⟩
      · have := L.there i hi hR cj
        simp only [tk, pt, c30, eff30] at this
        rw [cn, show ((i : Int) + 1).toNat = i + 1 by omega] at this
        exact ⟨this.1, by rw [this.2]; omega⟩
      · refine Ends.next hi ?_ he
        unfold stepR
        simp only [c30, show ¬ (30 : Int) = 1 by decide, show ¬ (30 : Int) = 2 by decide, show ¬ (30 : Int) = 3 by decide, show ¬ (30 : Int) = 4 by decide, if_true, if_false]
        rw [cn, if_pos (by omega), show ((i : Int) + 1).toNat = i + 1 by omega]
    · cases h
  · rename_i c30
    split at h
    · cases h
    rename_i c0
    split at h
    · cases h
    rename_i cz
    have cz : cnt l (i : Int) = 0 := by omega
    split at h
    · rename_i c32
      split at h
      · rename_i ct
        injection h with h; injection h with h1 h2
        subst h1 h2
        refine ⟨⟨by decide, by omega, fun hR => ?_, fun j hj c => by omega⟩, fun s => ∃ s0 x, s = s0 ++ [x] ∧ (x = 0 ∨ x = 1), fun e => absurd e c0, fun j s t hj hH hs => ?_, fun s r _ hq he => ?_⟩
        · have := L.next i hi hR c30
          simp only [tk, pt, c32, eff32] at this
          exact ⟨this.1, by rw [this.2]; omega⟩
        · rcases step_to hs with ⟨e, n30⟩ | ⟨cj, e, e2⟩
          · obtain rfl : j = i - 1 := by omega
            have ct' := ct
            revert ct' hs n30
            unfold stepR
            generalize rd_T54 l ((i - 1 : Nat) : Int) = p
            intro hs n30 ct'
            simp only at hs
            have tr := fun a b => apS_truth (a := a) (b := b) ct'
            have n6 : p.f0 = 6 ∨ 12 ≤ p.f0 ∧ p.f0 ≤ 17 := by
              unfold truthB at ct'
              simpa only [Bool.or_eq_true, beq_iff_eq, Bool.and_eq_true, decide_eq_true_eq] using ct'
            rw [if_neg (by omega), if_neg (by omega), if_neg (by omega), if_neg (by omega), if_neg (by omega), if_neg (by omega), if_neg (by omega)] at hs
            split at hs
            · split at hs
              · rename_i h1
                injection hs with hs; injection hs with _ hs
                obtain ⟨s0, x, rfl⟩ := snoc_of h1
                rw [set_last] at hs
                exact ⟨s0, _, hs.symm, tr _ _⟩
              · cases hs
            · split at hs
              · rename_i h1
                injection hs with hs; injection hs with _ hs
                obtain ⟨s1, y, rfl⟩ := snoc_of (show 1 ≤ s.length by omega)
                obtain ⟨s0, x, rfl⟩ := snoc_of (show 1 ≤ s1.length by simp at h1; omega)
                refine ⟨s0, apS p.f0 (rd (s0 ++ [x] ++ [y]) (((s0 ++ [x] ++ [y]).length - 2 : Nat) : Int)) (rd (s0 ++ [x] ++ [y]) (((s0 ++ [x] ++ [y]).length - 1 : Nat) : Int)), ?_, tr _ _⟩
                rw [← hs]
                generalize apS p.f0 (rd (s0 ++ [x] ++ [y]) (((s0 ++ [x] ++ [y]).length - 2 : Nat) : Int)) (rd (s0 ++ [x] ++ [y]) (((s0 ++ [x] ++ [y]).length - 1 : Nat) : Int)) = z
                rw [show s0 ++ [x] ++ [y] = s0 ++ ([x, y] : List Int) by simp, List.set_append, if_neg (by simp)]
                simp [List.take_append, List.take_of_length_le]
              · cases hs
          · exact absurd (show (rd_T54 l (j : Int)).f1 = (i : Int) by omega) (cnt_zero cz hj cj)
        · obtain ⟨s0, x, rfl, hx⟩ := hq
          refine Ends.next hi ?_ he
          unfold stepR
          simp only [c32, show ¬ (32 : Int) = 1 by decide, show ¬ (32 : Int) = 2 by decide, show ¬ (32 : Int) = 3 by decide, show ¬ (32 : Int) = 4 by decide, show ¬ (32 : Int) = 30 by decide, show ¬ (32 : Int) = 31 by decide, if_true, if_false]
          rw [if_pos (by simp), rd_last, set_last, apS_same hx]
      · cases h
    · split at h
      · rename_i c32 c31
        split at h
        · rename_i cp
          injection h with h; injection h with h1 h2
          subst h1 h2
          have hi1 : i - 1 < l.length := by omega
          have c1 : i - 1 + 1 = i := by omega
          have hp30 : (rd_T54 l ((i - 1 : Nat) : Int)).f0 ≠ 30 := by omega
          refine ⟨⟨by decide, by omega, fun hR => ?_, fun j hj c => ?_⟩, fun _ => True, fun _ => trivial, fun _ _ _ _ _ _ => trivial, fun s r hH _ he => ?_⟩
          · have h3 := L.next (i - 1) hi1 hR hp30
            simp only [tk, pt, cp.1, eff1] at h3
            rw [c1] at h3
            have h4 := L.next i hi h3.1 c30
            simp only [tk, pt, c31, eff31] at h4
            rw [show i - 1 + 2 = i + 1 by omega]
            exact ⟨h4.1, by rw [h4.2, h3.2]; omega⟩
          · have := cnt_zero cz hj c
            omega
          · have e1 : Ends apS l key time v i (s ++ [(rd_T54 l ((i - 1 : Nat) : Int)).f1]) r := by
              refine Ends.next hi1 ?_ he
              unfold stepR
              simp only [cp.1, if_true]
              rw [c1]
            rw [show i - 1 + 2 = i + 1 by omega]
            refine Ends.next hi ?_ e1
            have hok := okAt_jump (g.ok i hi) (by unfold jmp; rw [c31]; rfl)
            unfold stepR
            simp only [c31, show ¬ (31 : Int) = 1 by decide, show ¬ (31 : Int) = 2 by decide, show ¬ (31 : Int) = 3 by decide, show ¬ (31 : Int) = 4 by decide, show ¬ (31 : Int) = 30 by decide, if_true, if_false]
            rw [if_pos ⟨by simp, hok.1⟩, rd_last, take_last, if_neg cp.2]
        · cases h
      · cases h
theorem cutFrom_some {l : List S54} {r : Nat × Nat} : ∀ {k i : Nat}, cutFrom l k i = some r → ∃ j, i ≤ j ∧ j < i + k ∧ cutAt l j = some r := by
  intro k
  induction k with
  | zero => intro i h; cases h
  | succ k ih =>
    intro i h
    simp only [cutFrom] at h
    cases e : cutAt l i with
    | some r' => rw [e] at h; exact ⟨i, Nat.le_refl _, by omega, by rw [e]; exact h⟩
    | none =>
      rw [e] at h
      obtain ⟨j, h1, h2, h3⟩ := ih h
      exact ⟨j, by omega, by omega, h3⟩
theorem cutFrom_none {l : List S54} : ∀ {k i : Nat}, cutFrom l k i = none → ∀ j, i ≤ j → j < i + k → cutAt l j = none := by
  intro k
  induction k with
  | zero => intro i h j h1 h2; omega
  | succ k ih =>
    intro i h j h1 h2
    simp only [cutFrom] at h
    cases e : cutAt l i with
    | some r' => rw [e] at h; cases h
    | none =>
      rw [e] at h
      by_cases c : j = i
      · subst c; exact e
      · exact ih h j (by omega) (by omega)
theorem threadFrom_some {l m : List S54} : ∀ {k i : Nat}, threadFrom l k i = some m → ∃ j, i ≤ j ∧ j < i + k ∧ threadAt l j = some m := by
  intro k
  induction k with
  | zero => intro i h; cases h
  | succ k ih =>
    intro i h
    simp only [threadFrom] at h
    cases e : threadAt l i with
    | some r' => rw [e] at h; exact ⟨i, Nat.le_refl _, by omega, by rw [e]; exact h⟩
    | none =>
      rw [e] at h
      obtain ⟨j, h1, h2, h3⟩ := ih h
      exact ⟨j, by omega, by omega, h3⟩
/-- What better code is: something was taken out, or a jump goes on where the one did to which it led. -/
theorem betterC_cases {l m : List S54} (h : betterC l = some m) : (∃ i a n, i < l.length ∧ cutAt l i = some (a, n) ∧ m = dropC l a n) ∨
    ((∀ j, j < l.length → cutAt l j = none) ∧ ∃ i, i < l.length ∧ jmp (rd_T54 l (i : Int)) = true ∧ (rd_T54 l (i : Int)).f1 ≠ (l.length : Int) ∧ (rd_T54 l (rd_T54 l (i : Int)).f1).f0 = 30 ∧ m = l.set i ⟨(rd_T54 l (i : Int)).f0, (rd_T54 l (rd_T54 l (i : Int)).f1).f1⟩) := by
  unfold betterC at h
  cases e : cutFrom l l.length 0 with
  | some r =>
    rw [e] at h
    obtain ⟨j, _, h2, h3⟩ := cutFrom_some e
    exact .inl ⟨j, r.1, r.2, by omega, h3, (Option.some.inj h).symm⟩
  | none =>
    rw [e] at h
    obtain ⟨i, _, h2, h3⟩ := threadFrom_some h
    refine .inr ⟨fun j hj => cutFrom_none e j (Nat.zero_le _) (by omega), i, by omega, ?_⟩
    unfold threadAt at h3
    split at h3
    · rename_i c
      exact ⟨c.1, c.2.1, c.2.2, (Option.some.inj h3).symm⟩
    · cases h3
/-! ### A jump to a jump -/
theorem rd_set_code (l : List S54) (i : Nat) (x : S54) (hi : i < l.length) {j : Nat} (hj : j < l.length) : rd_T54 (l.set i x) (j : Int) = if j = i then x else rd_T54 l (j : Int) := by
  rw [rd_get (by simpa using hj), rd_get hj, List.getElem_set]
  by_cases c : i = j
  · rw [if_pos c, if_pos c.symm]
  · rw [if_neg c, if_neg (fun e => c e.symm)]
/-- Where a jump leads to a jump. -/
structure Thread (l : List S54) (i t : Nat) (u : Int) : Prop where
  hi : i < l.length
  cj : jmp (rd_T54 l (i : Int)) = true
  ht : (rd_T54 l (i : Int)).f1 = (t : Int)
  it : i < t
  tl : t < l.length
  t30 : (rd_T54 l (t : Int)).f0 = 30
  tu : (rd_T54 l (t : Int)).f1 = u
  u1 : (t : Int) < u
  u2 : u ≤ (l.length : Int)
theorem thread_of {l : List S54} (hO : Onward l) {i : Nat} (hi : i < l.length) (cj : jmp (rd_T54 l (i : Int)) = true) (hn : (rd_T54 l (i : Int)).f1 ≠ (l.length : Int)) (h30 : (rd_T54 l (rd_T54 l (i : Int)).f1).f0 = 30) : ∃ t u, Thread l i t u ∧ (rd_T54 l (rd_T54 l (i : Int)).f1).f1 = u := by
  have h1 := hO i hi cj
  obtain ⟨t, ht⟩ : ∃ t : Nat, (rd_T54 l (i : Int)).f1 = (t : Int) := ⟨(rd_T54 l (i : Int)).f1.toNat, by omega⟩
  rw [ht] at h30 hn h1 ⊢
  have htl : t < l.length := by omega
  have h2 := hO t htl (by unfold jmp; rw [h30]; rfl)
  exact ⟨t, _, ⟨hi, cj, ht, by omega, htl, h30, rfl, h2.1, h2.2⟩, rfl⟩
theorem eff_jmp {x : S54} (h : jmp x = true) (n : Int) : eff x.f0 n = eff x.f0 x.f1 := by
  unfold jmp at h
  simp only [Bool.or_eq_true, beq_iff_eq] at h
  rcases h with e | e <;> rw [e] <;> rfl
theorem lab_thread {l : List S54} {R : Nat → Prop} {G : Nat → Int} (L : Lab l R G) {i t : Nat} {u : Int} (T : Thread l i t u) : Lab (l.set i ⟨(rd_T54 l (i : Int)).f0, u⟩) R G := by
  obtain ⟨hi, cj, ht, it, tl, t30, tu, u1, u2⟩ := T
  have hrd := fun j (hj : j < l.length) => rd_set_code l i ⟨(rd_T54 l (i : Int)).f0, u⟩ hi hj
  have he : ∀ j, j < l.length → eff (rd_T54 (l.set i ⟨(rd_T54 l (i : Int)).f0, u⟩) (j : Int)).f0 (rd_T54 (l.set i ⟨(rd_T54 l (i : Int)).f0, u⟩) (j : Int)).f1 = eff (rd_T54 l (j : Int)).f0 (rd_T54 l (j : Int)).f1 := fun j hj => by
    rw [hrd j hj]
    by_cases c : j = i
    · subst c; rw [if_pos rfl]; exact eff_jmp cj u
    · rw [if_neg c]
  have hf : ∀ j, j < l.length → (rd_T54 (l.set i ⟨(rd_T54 l (i : Int)).f0, u⟩) (j : Int)).f0 = (rd_T54 l (j : Int)).f0 := fun j hj => by
    rw [hrd j hj]
    by_cases c : j = i
    · subst c; rw [if_pos rfl]
    · rw [if_neg c]
  have hjm : ∀ j, j < l.length → jmp (rd_T54 (l.set i ⟨(rd_T54 l (i : Int)).f0, u⟩) (j : Int)) = jmp (rd_T54 l (j : Int)) := fun j hj => by unfold jmp; rw [hf j hj]
  refine ⟨L.z, L.z0, by rw [List.length_set]; exact L.last, fun j hj => ?_, L.low, L.high, fun j hj h => ?_, fun j hj h => ?_, fun j hj h c => ?_, fun j hj h c => ?_⟩
  · rw [List.length_set] at hj
    have hx := L.ok j hj
    unfold okAt at hx ⊢
    simp only at hx ⊢
    rw [he j hj, hjm j hj, List.length_set]
    rw [Bool.and_eq_true] at hx ⊢
    refine ⟨hx.1, ?_⟩
    rw [hrd j hj]
    by_cases c : j = i
    · subst c
      rw [if_pos rfl]
      simp
      omega
    · rw [if_neg c]; exact hx.2
  · rw [List.length_set] at hj
    simp only [tk, he j hj]
    exact L.enough j hj h
  · rw [List.length_set] at hj
    simp only [tk, pt, he j hj]
    exact L.room j hj h
  · rw [List.length_set] at hj
    rw [hjm j hj] at c
    have h1 := L.there j hj h c
    simp only [tk, pt, he j hj] at h1 ⊢
    rw [hrd j hj]
    by_cases e : j = i
    · subst e
      rw [if_pos rfl]
      rw [ht, Int.toNat_natCast] at h1
      have h2 := L.there t tl h1.1 (by unfold jmp; rw [t30]; rfl)
      simp only [tk, pt, t30, eff30] at h2
      rw [tu] at h2
      exact ⟨h2.1, by rw [h2.2, h1.2, ← ht]; omega⟩
    · rw [if_neg e]; exact h1
  · rw [List.length_set] at hj
    rw [hf j hj] at c
    have h1 := L.next j hj h c
    simp only [tk, pt, he j hj] at h1 ⊢
    exact h1
theorem run_thread {ap : Int → Int → Int → Int} {l : List S54} {key time v : Int} {i t : Nat} {u : Int} (T : Thread l i t u) : ∀ (k a : Nat) (s : List Int) (r : Int), a ≤ l.length → Onward l → runR ap l key time v k a s = some r → Ends ap (l.set i ⟨(rd_T54 l (i : Int)).f0, u⟩) key time v a s r := by
  obtain ⟨hi, cj, ht, it, tl, t30, tu, u1, u2⟩ := T
  have hrd := fun j (hj : j < l.length) => rd_set_code l i ⟨(rd_T54 l (i : Int)).f0, u⟩ hi hj
  intro k
  induction k using Nat.strongRecOn with
  | ind k ih =>
  intro a s r ha hO h
  cases k with
  | zero => cases h
  | succ k =>
  have h0 := h
  simp only [runR] at h
  by_cases e0 : a < l.length
  rotate_left
  · rw [if_neg e0] at h
    exact ⟨1, by simp only [runR]; rw [List.length_set, if_neg e0]; exact h⟩
  rw [if_pos e0] at h
  obtain ⟨⟨b, t'⟩, hs, h⟩ := Option.bind_eq_some_iff.1 h
  simp only at h
  have hb : b ≤ l.length := by
    rcases step_to hs with ⟨e, _⟩ | ⟨c, e, _⟩
    · omega
    · have := hO a e0 c; omega
  by_cases ca : a = i
  · subst ca
    have hop : (rd_T54 l (a : Int)).f0 = 30 ∨ (rd_T54 l (a : Int)).f0 = 31 := by simpa [jmp] using cj
    have hgo : b = t → Ends ap (l.set a ⟨(rd_T54 l (a : Int)).f0, u⟩) key time v u.toNat t' r := by
      rintro rfl
      cases k with
      | zero => cases h
      | succ k =>
      simp only [runR] at h
      rw [if_pos tl] at h
      have hst : stepR ap l key time v b t' = some (u.toNat, t') := by
        unfold stepR
        simp only [t30, show ¬ (30 : Int) = 1 by decide, show ¬ (30 : Int) = 2 by decide, show ¬ (30 : Int) = 3 by decide, show ¬ (30 : Int) = 4 by decide, if_true, if_false]
        rw [tu, if_pos u1]
      rw [hst] at h
      exact ih k (by omega) u.toNat t' r (by omega) hO h
    have hrda := hrd a hi
    rw [if_pos rfl] at hrda
    rcases hop with c | c
    · have hs' := hs
      unfold stepR at hs
      simp only [c, ht, show ¬ (30 : Int) = 1 by decide, show ¬ (30 : Int) = 2 by decide, show ¬ (30 : Int) = 3 by decide, show ¬ (30 : Int) = 4 by decide, if_true, if_false, Int.toNat_natCast] at hs
      rw [if_pos (by omega)] at hs
      injection hs with hs; injection hs with hs1 hs2
      refine Ends.of_step (by simpa using hi) ?_ (hgo hs1.symm)
      unfold stepR
      rw [hrda]
      simp only [c, show ¬ (30 : Int) = 1 by decide, show ¬ (30 : Int) = 2 by decide, show ¬ (30 : Int) = 3 by decide, show ¬ (30 : Int) = 4 by decide, if_true, if_false]
      rw [if_pos (by omega), hs2]
    · unfold stepR at hs
      simp only [c, ht, show ¬ (31 : Int) = 1 by decide, show ¬ (31 : Int) = 2 by decide, show ¬ (31 : Int) = 3 by decide, show ¬ (31 : Int) = 4 by decide, show ¬ (31 : Int) = 30 by decide, if_true, if_false, Int.toNat_natCast] at hs
      split at hs
      case isFalse => cases hs
      case isTrue c2 =>
      injection hs with hs; injection hs with hs1 hs2
      have mk : ∀ b', b' = (if rd s ((s.length - 1 : Nat) : Int) = 0 then u.toNat else a + 1) → stepR ap (l.set a ⟨(rd_T54 l (a : Int)).f0, u⟩) key time v a s = some (b', t') := by
        intro b' hb'
        unfold stepR
        rw [hrda]
        simp only [c, show ¬ (31 : Int) = 1 by decide, show ¬ (31 : Int) = 2 by decide, show ¬ (31 : Int) = 3 by decide, show ¬ (31 : Int) = 4 by decide, show ¬ (31 : Int) = 30 by decide, if_true, if_false]
        rw [if_pos ⟨c2.1, by omega⟩, hb', hs2]
      split at hs1
      · rename_i c3
        exact Ends.of_step (by simpa using hi) (mk _ rfl) (by rw [if_pos c3]; exact hgo hs1.symm)
      · rename_i c3
        exact Ends.of_step (by simpa using hi) (mk _ rfl) (by rw [if_neg c3, hs1]; exact ih k (by omega) b t' r hb hO h)
  · refine Ends.of_step (by simpa using e0) ?_ (ih k (by omega) b t' r hb hO h)
    have hra := hrd a e0
    rw [if_neg ca] at hra
    unfold stepR at hs ⊢
    rw [hra]
    exact hs
/-! ### How often -/
def wt (L : Int) (x : S54) : Nat := if jmp x = true then (L - x.f1).toNat else 0
def phi (L : Int) (l : List S54) : Nat := (l.map (wt L)).sum
theorem phi_nil (L : Int) : phi L [] = 0 := rfl
theorem phi_cons (L : Int) (x : S54) (l : List S54) : phi L (x :: l) = wt L x + phi L l := by simp [phi]
theorem phi_append (L : Int) (a b : List S54) : phi L (a ++ b) = phi L a + phi L b := by simp [phi]
theorem phi_map {L L' : Int} {f : S54 → S54} (l : List S54) (h : ∀ x ∈ l, wt L' (f x) ≤ wt L x) : phi L' (l.map f) ≤ phi L l := by
  induction l with
  | nil => exact Nat.le_refl _
  | cons x l ih =>
    rw [List.map_cons, phi_cons, phi_cons]
    have := h x (by simp)
    have := ih (fun y hy => h y (by simp [hy]))
    omega
theorem phi_take_drop (L : Int) (l : List S54) (a n : Nat) : phi L (l.take a ++ l.drop (a + n)) ≤ phi L l := by
  have e : l = l.take a ++ ((l.drop a).take n ++ l.drop (a + n)) := by
    rw [← List.drop_drop, List.take_append_drop, List.take_append_drop]
  have h2 : phi L l = phi L (l.take a) + (phi L ((l.drop a).take n) + phi L (l.drop (a + n))) := by
    conv => lhs; rw [e]
    rw [phi_append, phi_append]
  rw [phi_append]
  omega
theorem onward_mem {l : List S54} (hO : Onward l) {x : S54} (hx : x ∈ l) (c : jmp x = true) : 0 ≤ x.f1 ∧ x.f1 ≤ (l.length : Int) := by
  obtain ⟨j, hj, rfl⟩ := List.getElem_of_mem hx
  have := hO j hj (by rw [rd_get hj]; exact c)
  rw [rd_get hj] at this
  omega
theorem phi_drop {l : List S54} (hO : Onward l) (hl : l.length ≤ 1000000) {a n : Nat} (h : a + n ≤ l.length) : phi ((dropC l a n).length : Int) (dropC l a n) ≤ phi (l.length : Int) l := by
  rw [drop_length h]
  refine Nat.le_trans ?_ (phi_take_drop (l.length : Int) l a n)
  refine phi_map _ (fun x hx => ?_)
  have hm : x ∈ l := by
    rcases List.mem_append.1 hx with h | h
    · exact List.mem_of_mem_take h
    · exact List.mem_of_mem_drop h
  unfold wt
  rw [shift_jmp]
  by_cases c : jmp x = true
  · rw [if_pos c, if_pos c]
    have := onward_mem hO hm c
    rw [shift_f1 c this.1 (by omega) (by omega) (by omega)]
    unfold new
    split <;> omega
  · rw [if_neg c, if_neg c]; exact Nat.le_refl _
theorem phi_set (L : Int) : ∀ (l : List S54) (i : Nat) (x : S54) (hi : i < l.length), phi L (l.set i x) + wt L l[i] = phi L l + wt L x
  | y :: l, 0, x, _ => by simp only [List.set_cons_zero, phi_cons, List.getElem_cons_zero]; omega
  | y :: l, i + 1, x, hi => by
    have := phi_set L l i x (by simpa using hi)
    simp only [List.set_cons_succ, phi_cons, List.getElem_cons_succ]
    omega
def tri : Nat → Nat
  | 0 => 0
  | m + 1 => m + tri m
theorem tri_mono {a b : Nat} (h : a ≤ b) : tri a ≤ tri b := by
  induction h with
  | refl => exact Nat.le_refl _
  | step _ ih => simp only [tri]; omega
theorem phi_bound {l : List S54} (hO : Onward l) : ∀ m, m ≤ l.length → phi (l.length : Int) (l.drop (l.length - m)) ≤ tri m := by
  intro m
  induction m with
  | zero => intro _; rw [Nat.sub_zero, List.drop_length]; exact Nat.le_refl _
  | succ m ih =>
    intro hm
    have hj : l.length - (m + 1) < l.length := by omega
    rw [List.drop_eq_getElem_cons hj, phi_cons, show l.length - (m + 1) + 1 = l.length - m by omega]
    have h1 := ih (by omega)
    have h2 : wt (l.length : Int) l[l.length - (m + 1)] ≤ m := by
      unfold wt
      split
      · rename_i c
        have := hO _ hj (by rw [rd_get hj]; exact c)
        rw [rd_get hj] at this
        omega
      · omega
    simp only [tri]
    omega
def meas (l : List S54) : Nat := 2 * l.length + phi (l.length : Int) l
theorem meas_bound {l : List S54} (hO : Onward l) (h : l.length ≤ 120) : meas l ≤ 7380 := by
  have h1 := phi_bound hO l.length (Nat.le_refl _)
  rw [Nat.sub_self, List.drop_zero] at h1
  have h2 := tri_mono h
  have h3 : tri 120 = 7140 := by decide +kernel
  unfold meas
  omega
theorem cut_good_le {l : List S54} {i a n : Nat} (hi : i < l.length) (h : cutAt l i = some (a, n)) : 0 < n ∧ a + n ≤ l.length := by
  unfold cutAt at h
  split at h
  · split at h
    · injection h with h; injection h with h1 h2; omega
    · cases h
  split at h
  · cases h
  split at h
  · cases h
  split at h
  · split at h
    · injection h with h; injection h with h1 h2; omega
    · cases h
  split at h
  · split at h
    · injection h with h; injection h with h1 h2; omega
    · cases h
  · cases h
theorem meas_better {l m : List S54} (hO : Onward l) (hl : l.length ≤ 1000000) (h : betterC l = some m) : meas m + 2 ≤ meas l ∧ m.length ≤ l.length := by
  rcases betterC_cases h with ⟨i, a, n, hi, hc, rfl⟩ | ⟨hn, i, hi, cj, hne, h30, rfl⟩
  · have h1 := cut_good_le hi hc
    have h2 := phi_drop hO hl h1.2
    have h3 := drop_length h1.2
    unfold meas
    omega
  · obtain ⟨t, u, T, hu⟩ := thread_of hO hi cj hne h30
    rw [hu]
    have h1 := phi_set (l.length : Int) l i ⟨(rd_T54 l (i : Int)).f0, u⟩ hi
    have h2 := hn t T.tl
    unfold cutAt at h2
    rw [if_pos T.t30, T.tu] at h2
    have h3 : u ≠ (t : Int) + 1 := by
      intro e
      rw [if_pos e] at h2
      cases h2
    have e1 : wt (l.length : Int) l[i] = l.length - t := by
      unfold wt
      rw [← rd_get hi, if_pos cj, T.ht]
      omega
    have cj' : jmp (⟨(rd_T54 l (i : Int)).f0, u⟩ : S54) = true := cj
    have e2 : wt (l.length : Int) ⟨(rd_T54 l (i : Int)).f0, u⟩ = l.length - u.toNat := by
      unfold wt
      rw [if_pos cj']
      simp only
      have := T.u1
      omega
    have := T.u1
    have := T.u2
    have := T.tl
    unfold meas
    rw [List.length_set]
    omega
/-- Better code may be, is not longer, and leaves the same. -/
theorem better_good {l m : List S54} (hO : hOk l = true) (h : betterC l = some m) : hOk m = true ∧ m.length ≤ l.length ∧ ∀ key time v r, Ends apS l key time v 0 [] r → Ends apS m key time v 0 [] r := by
  have hll := hOk_len hO
  obtain ⟨H, g⟩ := good_of_hOk hO
  have L := lab_of_good g
  have hon := onward_of hO
  have hlen := (meas_better hon (by omega) h).2
  rcases betterC_cases h with ⟨i, a, n, hi, hc, rfl⟩ | ⟨hn, i, hi, cj, hne, h30, rfl⟩
  · have h1 := cut_good_le hi hc
    have h3 := drop_length h1.2
    have L2 := lab_drop L (by omega) (cut_good g (by omega) 0 0 0 hi hc).skip
    have h0 : 0 < (dropC l a n).length := by
      rw [h3]
      by_cases c : n < l.length
      · omega
      · have e1 : n = l.length := by omega
        have e2 : a = 0 := by omega
        subst e2
        have h5 := (cut_good g (by omega) 0 0 0 hi hc).skip.same L.z
        rw [Nat.zero_add, e1] at h5
        have h6 := L.last
        have h7 := L.z0
        omega
    refine ⟨hOk_of L2 h0 (by omega), hlen, fun key time v r he => ?_⟩
    obtain ⟨S, Q, q0, q1, q2⟩ := cut_good g (by omega) key time v hi hc
    have := run_drop g (by omega) S Q q0 q1 q2 l.length 0 [] r (by omega) (by omega) (Nat.zero_le _) (by simpa using g.inv.zero) (fun e => q0 e.symm) he
    rwa [show new a n 0 = 0 by unfold new; simp] at this
  · obtain ⟨t, u, T, hu⟩ := thread_of hon hi cj hne h30
    rw [hu]
    refine ⟨hOk_of (lab_thread L T) (by simp; omega) (by simp; omega), by simp, fun key time v r he => ?_⟩
    obtain ⟨k, he⟩ := he
    exact run_thread T k 0 [] r (Nat.zero_le _) hon he
theorem keeps_ok : Keeps (fun l => hOk l = true) := fun l m hl h => (better_good hl h).1
theorem betterN_good : ∀ (k : Nat) (l : List S54), hOk l = true → hOk (betterN k l) = true ∧ (betterN k l).length ≤ l.length ∧ (∀ key time v r, Ends apS l key time v 0 [] r → Ends apS (betterN k l) key time v 0 [] r) ∧ (meas l < 2 * k → betterC (betterN k l) = none) := by
  intro k
  induction k with
  | zero => intro l hl; exact ⟨hl, Nat.le_refl _, fun _ _ _ _ h => h, fun h => by omega⟩
  | succ k ih =>
    intro l hl
    cases e : betterC l with
    | none => rw [betterN_none e]; exact ⟨hl, Nat.le_refl _, fun _ _ _ _ h => h, fun _ => e⟩
    | some m =>
      rw [betterN_some e]
      have hll := hOk_len hl
      obtain ⟨h1, h2, h3⟩ := better_good hl e
      have h4 := (meas_better (onward_of hl) (by omega) e).1
      obtain ⟨i1, i2, i3, i4⟩ := ih m h1
      exact ⟨i1, Nat.le_trans i2 h2, fun key time v r h => i3 key time v r (h3 key time v r h), fun h => i4 (by omega)⟩
end
end Go.Proofs.Ytekbcfgcojecmaa.P
