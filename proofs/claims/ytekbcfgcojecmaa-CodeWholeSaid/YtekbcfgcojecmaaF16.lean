-- Written by this session's program drv.py, by means of the kit's printer; not a text of print.sh.
import Derived.Test.YtekbcfgcojecmaaF0
import Derived.Test.YtekbcfgcojecmaaF11
import Derived.Test.YtekbcfgcojecmaaF14
import Derived.Test.YtekbcfgcojecmaaF30
namespace Go.Proofs.Ytekbcfgcojecmaa.P
open Go.RowKit Go.Proofs.YtekbcfgcojecmaaW.PrintWords Go.Proofs.YtekbcfgcojecmaaW.PrintLast Go.Proofs.YtekbcfgcojecmaaW.PrintMore
attribute [local go_sem] max2_int min2_int max_two min_two max_three min_three max_four min_four   -- for this text's walks alone
set_option linter.unusedVariables false
set_option linter.unusedSimpArgs false

/-- A tree's code at a place, and its value. -/
inductive Of (ap : Int → Int → Int → Int) (key time v : Int) : S35 → Nat → List S54 → Int → Prop
  | number (n : S35) (at_ : Nat) : n.f2 = [] → n.f0 = 1 → Of ap key time v n at_ [⟨n.f0, n.f1⟩] n.f1
  | key (n : S35) (at_ : Nat) : n.f2 = [] → n.f0 = 2 → Of ap key time v n at_ [⟨n.f0, n.f1⟩] key
  | time (n : S35) (at_ : Nat) : n.f2 = [] → n.f0 = 3 → Of ap key time v n at_ [⟨n.f0, n.f1⟩] time
  | value (n : S35) (at_ : Nat) : n.f2 = [] → n.f0 = 4 → Of ap key time v n at_ [⟨n.f0, n.f1⟩] v
  | if3 (n x y z : S35) (at_ : Nat) (a b c : List S54) (r0 r1 r2 : Int) : n.f2 = [x, y, z] → n.f0 = 22 → Of ap key time v x at_ a r0 → Of ap key time v y (at_ + a.length + 1) b r1 → Of ap key time v z (at_ + a.length + b.length + 2) c r2 →
      Of ap key time v n at_ (a ++ [⟨31, ((at_ + a.length + b.length + 2 : Nat) : Int)⟩] ++ b ++ [⟨30, ((at_ + a.length + b.length + c.length + 2 : Nat) : Int)⟩] ++ c) (if r0 ≠ 0 then r1 else r2)
  | and2 (n x y : S35) (at_ : Nat) (a b : List S54) (r0 r1 : Int) : n.f2 = [x, y] → n.f0 = 18 → Of ap key time v x at_ a r0 → Of ap key time v y (at_ + a.length + 1) b r1 →
      Of ap key time v n at_ (a ++ [⟨31, ((at_ + a.length + b.length + 3 : Nat) : Int)⟩] ++ b ++ [⟨32, 0⟩] ++ [⟨30, ((at_ + a.length + b.length + 4 : Nat) : Int)⟩] ++ [⟨1, 0⟩]) (ap 18 r0 r1)
  | or2 (n x y : S35) (at_ : Nat) (a b : List S54) (r0 r1 : Int) : n.f2 = [x, y] → n.f0 = 19 → Of ap key time v x at_ a r0 → Of ap key time v y (at_ + a.length + 3) b r1 →
      Of ap key time v n at_ (a ++ [⟨31, ((at_ + a.length + 3 : Nat) : Int)⟩] ++ [⟨1, 1⟩] ++ [⟨30, ((at_ + a.length + b.length + 4 : Nat) : Int)⟩] ++ b ++ [⟨32, 0⟩]) (ap 19 r0 r1)
  | one (n x : S35) (at_ : Nat) (a : List S54) (r0 : Int) : n.f2 = [x] → n.f0 = 5 ∨ n.f0 = 6 → Of ap key time v x at_ a r0 → Of ap key time v n at_ (a ++ [⟨n.f0, 0⟩]) (ap n.f0 r0 0)
  | two (n x y : S35) (at_ : Nat) (a b : List S54) (r0 r1 : Int) : n.f2 = [x, y] → 7 ≤ n.f0 ∧ n.f0 ≤ 17 ∨ n.f0 = 20 ∨ n.f0 = 21 → Of ap key time v x at_ a r0 → Of ap key time v y (at_ + a.length) b r1 →
      Of ap key time v n at_ (a ++ b ++ [⟨n.f0, 0⟩]) (ap n.f0 r0 r1)
/-- A part of some code. -/
def Seg (l : List S54) (at_ : Nat) (c : List S54) : Prop := at_ + c.length ≤ l.length ∧ ∀ j : Nat, j < c.length → rd_T54 l ((at_ + j : Nat) : Int) = c.getD j z54
theorem Seg.split {l : List S54} {at_ : Nat} {a b : List S54} (h : Seg l at_ (a ++ b)) : Seg l at_ a ∧ Seg l (at_ + a.length) b := by
  obtain ⟨h1, h2⟩ := h
  rw [List.length_append] at h1 h2
  refine ⟨⟨by omega, fun j hj => ?_⟩, ⟨by omega, fun j hj => ?_⟩⟩
  · rw [h2 j (by omega)]; simp [List.getD_eq_getElem?_getD, List.getElem?_append_left hj]
  · rw [show at_ + a.length + j = at_ + (a.length + j) by omega, h2 _ (by omega)]; simp [List.getD_eq_getElem?_getD, List.getElem?_append_right (show a.length ≤ a.length + j by omega)]
theorem Seg.one {l : List S54} {at_ : Nat} {x : S54} (h : Seg l at_ [x]) : at_ < l.length ∧ rd_T54 l (at_ : Int) = x := by
  have := h.2 0 (by simp)
  have h1 := h.1
  simp at h1
  exact ⟨by omega, by simpa using this⟩
/-- Some steps later. -/
def Goes (ap : Int → Int → Int → Int) (l : List S54) (key time v : Int) (a : Nat) (s : List Int) (b : Nat) (t : List Int) : Prop := ∃ m, ∀ k, runR ap l key time v (k + m) a s = runR ap l key time v k b t
theorem Goes.trans {ap : Int → Int → Int → Int} {l : List S54} {key time v : Int} {a b c : Nat} {s t u : List Int} (h : Goes ap l key time v a s b t) (h' : Goes ap l key time v b t c u) : Goes ap l key time v a s c u := by
  obtain ⟨m, h⟩ := h
  obtain ⟨m', h'⟩ := h'
  exact ⟨m' + m, fun k => by rw [← Nat.add_assoc, h, h']⟩
theorem Goes.step {ap : Int → Int → Int → Int} {l : List S54} {key time v : Int} {a b : Nat} {s t : List Int} (ha : a < l.length) (h : stepR ap l key time v a s = some (b, t)) : Goes ap l key time v a s b t :=
  ⟨1, fun k => by rw [runR, if_pos ha, h]; rfl⟩
theorem rd_last (s : List Int) (x : Int) : rd (s ++ [x]) (((s ++ [x]).length - 1 : Nat) : Int) = x := by
  unfold rd; simp [List.getD_eq_getElem?_getD]
theorem take_last (s : List Int) (x : Int) : (s ++ [x]).take ((s ++ [x]).length - 1) = s := by simp
theorem set_last (s : List Int) (x y : Int) : (s ++ [x]).set ((s ++ [x]).length - 1) y = s ++ [y] := by simp
theorem of_goes {ap : Int → Int → Int → Int} {key time v : Int} (h18 : ∀ a b, ap 18 a b = if a = 0 then 0 else ap 13 b 0) (h19 : ∀ a b, ap 19 a b = if a = 0 then ap 13 b 0 else 1) {n : S35} {at_ : Nat} {c : List S54} {r : Int} (h : Of ap key time v n at_ c r) :
    ∀ (l : List S54) (s : List Int), Seg l at_ c → Goes ap l key time v at_ s (at_ + c.length) (s ++ [r]) := by
  induction h with
  | number n at_ h1 h2 => intro l s hs; obtain ⟨ha, hr⟩ := hs.one; exact Goes.step ha (by unfold stepR; rw [hr, h2]; rfl)
  | key n at_ h1 h2 => intro l s hs; obtain ⟨ha, hr⟩ := hs.one; exact Goes.step ha (by unfold stepR; rw [hr, h2]; rfl)
  | time n at_ h1 h2 => intro l s hs; obtain ⟨ha, hr⟩ := hs.one; exact Goes.step ha (by unfold stepR; rw [hr, h2]; rfl)
  | value n at_ h1 h2 => intro l s hs; obtain ⟨ha, hr⟩ := hs.one; exact Goes.step ha (by unfold stepR; rw [hr, h2]; rfl)
  | if3 n x y z at_ a b c r0 r1 r2 h1 h2 _ _ _ i0 i1 i2 =>
    intro l s hs
    obtain ⟨hs, sc⟩ := hs.split
    obtain ⟨hs, sj⟩ := hs.split
    obtain ⟨hs, sb⟩ := hs.split
    obtain ⟨sa, sz⟩ := hs.split
    simp only [List.length_append, List.length_cons, List.length_nil] at sc sj sb sz ⊢
    obtain ⟨zl, zr⟩ := sz.one
    obtain ⟨jl, jr⟩ := sj.one
    refine (i0 l s sa).trans ?_
    by_cases c0 : r0 = 0
    · rw [if_neg (by simp [c0])]
      refine (Goes.step (b := at_ + a.length + b.length + 2) (t := s) zl ?_).trans ?_
      · unfold stepR
        rw [zr]
        simp only [show ¬ (31 : Int) = 1 by decide, show ¬ (31 : Int) = 2 by decide, show ¬ (31 : Int) = 3 by decide, show ¬ (31 : Int) = 4 by decide, show ¬ (31 : Int) = 30 by decide, if_true, if_false]
        rw [if_pos ⟨by simp, by omega⟩, rd_last, take_last, if_pos c0, Int.toNat_natCast]
      · have := i2 l s (by simpa [Nat.add_assoc, Nat.add_comm, Nat.add_left_comm] using sc)
        rw [show at_ + (a.length + (0 + 1) + b.length + (0 + 1) + c.length) = at_ + a.length + b.length + 2 + c.length by omega]
        exact this
    · rw [if_pos c0]
      refine (Goes.step (b := at_ + a.length + 1) (t := s) zl ?_).trans ?_
      · unfold stepR
        rw [zr]
        simp only [show ¬ (31 : Int) = 1 by decide, show ¬ (31 : Int) = 2 by decide, show ¬ (31 : Int) = 3 by decide, show ¬ (31 : Int) = 4 by decide, show ¬ (31 : Int) = 30 by decide, if_true, if_false]
        rw [if_pos ⟨by simp, by omega⟩, rd_last, take_last, if_neg c0]
      · refine (i1 l s (by simpa [Nat.add_assoc, Nat.add_comm, Nat.add_left_comm] using sb)).trans ?_
        rw [show at_ + (a.length + (0 + 1) + b.length) = at_ + a.length + 1 + b.length by omega] at jl jr
        refine Goes.step jl ?_
        unfold stepR
        rw [jr]
        simp only [show ¬ (30 : Int) = 1 by decide, show ¬ (30 : Int) = 2 by decide, show ¬ (30 : Int) = 3 by decide, show ¬ (30 : Int) = 4 by decide, if_true, if_false]
        rw [if_pos (by omega), Int.toNat_natCast]
        congr 2; omega
  | and2 n x y at_ a b r0 r1 h1 h2 _ _ i0 i1 =>
    intro l s hs
    obtain ⟨hs, sn⟩ := hs.split
    obtain ⟨hs, sj⟩ := hs.split
    obtain ⟨hs, so⟩ := hs.split
    obtain ⟨hs, sb⟩ := hs.split
    obtain ⟨sa, sz⟩ := hs.split
    simp only [List.length_append, List.length_cons, List.length_nil] at sn sj so sb sz ⊢
    obtain ⟨zl, zr⟩ := sz.one
    obtain ⟨jl, jr⟩ := sj.one
    obtain ⟨ol, or_⟩ := so.one
    obtain ⟨nl, nr⟩ := sn.one
    refine (i0 l s sa).trans ?_
    rw [h18]
    by_cases c0 : r0 = 0
    · rw [if_pos c0]
      refine (Goes.step (b := at_ + a.length + b.length + 3) (t := s) zl ?_).trans ?_
      · unfold stepR
        rw [zr]
        simp only [show ¬ (31 : Int) = 1 by decide, show ¬ (31 : Int) = 2 by decide, show ¬ (31 : Int) = 3 by decide, show ¬ (31 : Int) = 4 by decide, show ¬ (31 : Int) = 30 by decide, if_true, if_false]
        rw [if_pos ⟨by simp, by omega⟩, rd_last, take_last, if_pos c0, Int.toNat_natCast]
      · rw [show at_ + (a.length + (0 + 1) + b.length + (0 + 1) + (0 + 1)) = at_ + a.length + b.length + 3 by omega] at nl nr
        refine Goes.step nl ?_
        unfold stepR
        rw [nr]
        simp only [if_true]
        congr 2; omega
    · rw [if_neg c0]
      refine (Goes.step (b := at_ + a.length + 1) (t := s) zl ?_).trans ?_
      · unfold stepR
        rw [zr]
        simp only [show ¬ (31 : Int) = 1 by decide, show ¬ (31 : Int) = 2 by decide, show ¬ (31 : Int) = 3 by decide, show ¬ (31 : Int) = 4 by decide, show ¬ (31 : Int) = 30 by decide, if_true, if_false]
        rw [if_pos ⟨by simp, by omega⟩, rd_last, take_last, if_neg c0]
      · refine (i1 l s (by simpa [Nat.add_assoc, Nat.add_comm, Nat.add_left_comm] using sb)).trans ?_
        rw [show at_ + (a.length + (0 + 1) + b.length) = at_ + a.length + 1 + b.length by omega] at ol or_
        refine (Goes.step (b := at_ + a.length + b.length + 2) (t := s ++ [ap 13 r1 0]) ol ?_).trans ?_
        · unfold stepR
          rw [or_]
          simp only [show ¬ (32 : Int) = 1 by decide, show ¬ (32 : Int) = 2 by decide, show ¬ (32 : Int) = 3 by decide, show ¬ (32 : Int) = 4 by decide, show ¬ (32 : Int) = 30 by decide, show ¬ (32 : Int) = 31 by decide, if_true, if_false]
          rw [if_pos (by simp), rd_last, set_last]
          congr 2; omega
        · rw [show at_ + (a.length + (0 + 1) + b.length + (0 + 1)) = at_ + a.length + b.length + 2 by omega] at jl jr
          refine Goes.step jl ?_
          unfold stepR
          rw [jr]
          simp only [show ¬ (30 : Int) = 1 by decide, show ¬ (30 : Int) = 2 by decide, show ¬ (30 : Int) = 3 by decide, show ¬ (30 : Int) = 4 by decide, if_true, if_false]
          rw [if_pos (by omega), Int.toNat_natCast]
          congr 2; omega
  | or2 n x y at_ a b r0 r1 h1 h2 _ _ i0 i1 =>
    intro l s hs
    obtain ⟨hs, so⟩ := hs.split
    obtain ⟨hs, sb⟩ := hs.split
    obtain ⟨hs, sj⟩ := hs.split
    obtain ⟨hs, sn⟩ := hs.split
    obtain ⟨sa, sz⟩ := hs.split
    simp only [List.length_append, List.length_cons, List.length_nil] at sn sj so sb sz ⊢
    obtain ⟨zl, zr⟩ := sz.one
    obtain ⟨jl, jr⟩ := sj.one
    obtain ⟨ol, or_⟩ := so.one
    obtain ⟨nl, nr⟩ := sn.one
    refine (i0 l s sa).trans ?_
    rw [h19]
    by_cases c0 : r0 = 0
    · rw [if_pos c0]
      refine (Goes.step (b := at_ + a.length + 3) (t := s) zl ?_).trans ?_
      · unfold stepR
        rw [zr]
        simp only [show ¬ (31 : Int) = 1 by decide, show ¬ (31 : Int) = 2 by decide, show ¬ (31 : Int) = 3 by decide, show ¬ (31 : Int) = 4 by decide, show ¬ (31 : Int) = 30 by decide, if_true, if_false]
        rw [if_pos ⟨by simp, by omega⟩, rd_last, take_last, if_pos c0, Int.toNat_natCast]
      · refine (i1 l s (by simpa [Nat.add_assoc, Nat.add_comm, Nat.add_left_comm] using sb)).trans ?_
        rw [show at_ + (a.length + (0 + 1) + (0 + 1) + (0 + 1) + b.length) = at_ + a.length + 3 + b.length by omega] at ol or_
        refine Goes.step ol ?_
        unfold stepR
        rw [or_]
        simp only [show ¬ (32 : Int) = 1 by decide, show ¬ (32 : Int) = 2 by decide, show ¬ (32 : Int) = 3 by decide, show ¬ (32 : Int) = 4 by decide, show ¬ (32 : Int) = 30 by decide, show ¬ (32 : Int) = 31 by decide, if_true, if_false]
        rw [if_pos (by simp), rd_last, set_last]
        congr 2; omega
    · rw [if_neg c0]
      refine (Goes.step (b := at_ + a.length + 1) (t := s) zl ?_).trans ?_
      · unfold stepR
        rw [zr]
        simp only [show ¬ (31 : Int) = 1 by decide, show ¬ (31 : Int) = 2 by decide, show ¬ (31 : Int) = 3 by decide, show ¬ (31 : Int) = 4 by decide, show ¬ (31 : Int) = 30 by decide, if_true, if_false]
        rw [if_pos ⟨by simp, by omega⟩, rd_last, take_last, if_neg c0]
      · rw [show at_ + (a.length + (0 + 1)) = at_ + a.length + 1 by omega] at nl nr
        refine (Goes.step (b := at_ + a.length + 2) (t := s ++ [1]) nl ?_).trans ?_
        · unfold stepR
          rw [nr]
          simp only [if_true]
        · rw [show at_ + (a.length + (0 + 1) + (0 + 1)) = at_ + a.length + 2 by omega] at jl jr
          refine Goes.step jl ?_
          unfold stepR
          rw [jr]
          simp only [show ¬ (30 : Int) = 1 by decide, show ¬ (30 : Int) = 2 by decide, show ¬ (30 : Int) = 3 by decide, show ¬ (30 : Int) = 4 by decide, if_true, if_false]
          rw [if_pos (by omega), Int.toNat_natCast]
          congr 2; omega
  | one n x at_ a r0 h1 h2 _ i0 =>
    intro l s hs
    obtain ⟨sa, so⟩ := hs.split
    obtain ⟨ol, or_⟩ := so.one
    refine (i0 l s sa).trans (Goes.step ol ?_)
    unfold stepR
    rw [or_]
    simp only
    rw [if_neg (by omega), if_neg (by omega), if_neg (by omega), if_neg (by omega), if_neg (by omega), if_neg (by omega), if_neg (by omega), if_pos (by omega), if_pos (by simp), rd_last, set_last]
    congr 2; simp; omega
  | two n x y at_ a b r0 r1 h1 h2 _ _ i0 i1 =>
    intro l s hs
    obtain ⟨hs, so⟩ := hs.split
    obtain ⟨sa, sb⟩ := hs.split
    obtain ⟨ol, or_⟩ := so.one
    rw [List.length_append] at ol or_
    rw [show at_ + (a.length + b.length) = at_ + a.length + b.length by omega] at ol or_
    refine (i0 l s sa).trans ((i1 l (s ++ [r0]) sb).trans (Goes.step ol ?_))
    unfold stepR
    rw [or_]
    simp only
    rw [if_neg (by omega), if_neg (by omega), if_neg (by omega), if_neg (by omega), if_neg (by omega), if_neg (by omega), if_neg (by omega), if_neg (by omega), if_pos (by simp), rd_last]
    have e2 : rd (s ++ [r0] ++ [r1]) (((s ++ [r0] ++ [r1]).length - 2 : Nat) : Int) = r0 := by unfold rd; simp [List.getD_eq_getElem?_getD]
    have e3 : ((s ++ [r0] ++ [r1]).set ((s ++ [r0] ++ [r1]).length - 2) (ap n.f0 r0 r1)).take ((s ++ [r0] ++ [r1]).length - 1) = s ++ [ap n.f0 r0 r1] := by
      rw [show s ++ [r0] ++ [r1] = s ++ ([r0, r1] : List Int) by simp, List.set_append, if_neg (by simp)]
      simp [List.take_append, List.take_of_length_le]
    rw [e2, e3]
    congr 2; simp; omega
/-- An instruction more. -/
def put (l : List S54) (op n : Int) : Option (List S54) := if l.length < 1048576 then some (l ++ [⟨op, n⟩]) else none
/-- A jump goes on at the end. -/
def land (l : List S54) (at_ : Nat) : Option (List S54) := if at_ < l.length then some (l.set at_ ⟨(rd_T54 l (at_ : Int)).f0, (l.length : Int)⟩) else none
def allC (f : S35 → List S54 → Option (List S54)) : List S35 → List S54 → Option (List S54)
  | [], l => some l
  | x :: xs, l => (f x l).bind fun l' => allC f xs l'
/-- The code of a tree, put behind some. -/
def treeC : Nat → S35 → List S54 → Option (List S54)
  | 0, _, _ => none
  | k + 1, n, l =>
    if n.f0 = 1 ∨ n.f0 = 2 ∨ n.f0 = 3 ∨ n.f0 = 4 then put l n.f0 n.f1
    else if n.f0 = 22 then
      if n.f2.length = 3 then
        (treeC k (rd_T35 n.f2 0) l).bind fun l1 => (put l1 31 0).bind fun l2 => (treeC k (rd_T35 n.f2 1) l2).bind fun l3 => (put l3 30 0).bind fun l4 =>
          (land l4 l1.length).bind fun l5 => (treeC k (rd_T35 n.f2 2) l5).bind fun l6 => land l6 l3.length
      else none
    else if n.f0 = 18 then
      if n.f2.length = 2 then
        (treeC k (rd_T35 n.f2 0) l).bind fun l1 => (put l1 31 0).bind fun l2 => (treeC k (rd_T35 n.f2 1) l2).bind fun l3 => (put l3 32 0).bind fun l4 => (put l4 30 0).bind fun l5 =>
          (land l5 l1.length).bind fun l6 => (put l6 1 0).bind fun l7 => land l7 l4.length
      else none
    else if n.f0 = 19 then
      if n.f2.length = 2 then
        (treeC k (rd_T35 n.f2 0) l).bind fun l1 => (put l1 31 0).bind fun l2 => (put l2 1 1).bind fun l3 => (put l3 30 0).bind fun l4 => (land l4 l1.length).bind fun l5 =>
          (treeC k (rd_T35 n.f2 1) l5).bind fun l6 => (put l6 32 0).bind fun l7 => land l7 l3.length
      else none
    else (allC (treeC k) n.f2 l).bind fun l' => put l' n.f0 0
theorem put_ok {l : List S54} {op n : Int} (h : l.length < 1048576) : put l op n = some (l ++ [⟨op, n⟩]) := if_pos h
theorem land_ok {L p q : List S54} {x : S54} (h : L = p ++ x :: q) : land L p.length = some (p ++ ⟨x.f0, (L.length : Int)⟩ :: q) := by
  subst h
  have e : rd_T54 (p ++ x :: q) (p.length : Int) = x := by unfold rd_T54; simp [List.getD_eq_getElem?_getD]
  unfold land
  rw [if_pos (by simp), e]
  congr 1
  simp [List.set_append]
theorem of_treeC {ap : Int → Int → Int → Int} {key time v : Int} {n : S35} {at_ : Nat} {c : List S54} {r : Int} (h : Of ap key time v n at_ c r) :
    ∀ k, c.length ≤ k → ∀ l : List S54, l.length = at_ → l.length + c.length ≤ 1000000 → treeC k n l = some (l ++ c) := by
  have leaf : ∀ (n : S35), (n.f0 = 1 ∨ n.f0 = 2 ∨ n.f0 = 3 ∨ n.f0 = 4) → ∀ k, 1 ≤ k → ∀ l : List S54, l.length + [(⟨n.f0, n.f1⟩ : S54)].length ≤ 1000000 → treeC k n l = some (l ++ [⟨n.f0, n.f1⟩]) := by
    intro n hn k hk l hl
    obtain ⟨k, rfl⟩ : ∃ m, k = m + 1 := ⟨k - 1, by omega⟩
    simp only [treeC]
    rw [if_pos hn, put_ok (by simp at hl; omega)]
  induction h with
  | number n at_ h1 h2 => exact fun k hk l _ hl => leaf n (by omega) k hk l hl
  | key n at_ h1 h2 => exact fun k hk l _ hl => leaf n (by omega) k hk l hl
  | time n at_ h1 h2 => exact fun k hk l _ hl => leaf n (by omega) k hk l hl
  | value n at_ h1 h2 => exact fun k hk l _ hl => leaf n (by omega) k hk l hl
  | if3 n x y z at_ a b c r0 r1 r2 h1 h2 _ _ _ i0 i1 i2 =>
    intro k hk l hl hb
    simp only [List.length_append, List.length_cons, List.length_nil] at hb hk
    obtain ⟨k, rfl⟩ : ∃ m, k = m + 1 := ⟨k - 1, by omega⟩
    simp only [treeC]
    rw [if_neg (by omega), if_pos h2, if_pos (by rw [h1]; rfl), h1]
    rw [show rd_T35 [x, y, z] 0 = x from rfl, show rd_T35 [x, y, z] 1 = y from rfl, show rd_T35 [x, y, z] 2 = z from rfl]
    rw [i0 k (by omega) l hl (by omega)]
    simp only [Option.bind_some]
    rw [put_ok (by simp only [List.length_append, List.length_cons, List.length_nil]; omega)]
    simp only [Option.bind_some]
    rw [i1 k (by omega) (l ++ a ++ [(⟨31, 0⟩ : S54)]) (by simp; omega) (by simp only [List.length_append, List.length_cons, List.length_nil]; omega)]
    simp only [Option.bind_some]
    rw [put_ok (by simp only [List.length_append, List.length_cons, List.length_nil]; omega)]
    simp only [Option.bind_some]
    rw [land_ok (p := l ++ a) (x := ⟨31, 0⟩) (q := b ++ [(⟨30, 0⟩ : S54)]) (by simp)]
    simp only [Option.bind_some]
    rw [i2 k (by omega) _ (by simp; omega) (by simp; omega)]
    simp only [Option.bind_some]
    rw [show (l ++ a ++ [(⟨31, 0⟩ : S54)] ++ b).length = (l ++ a ++ [(⟨31, ((at_ + a.length + b.length + 2 : Nat) : Int)⟩ : S54)] ++ b).length by simp]
    rw [land_ok (p := l ++ a ++ [(⟨31, ((at_ + a.length + b.length + 2 : Nat) : Int)⟩ : S54)] ++ b) (x := ⟨30, 0⟩) (q := c) (by simp; omega)]
    simp
    omega
  | and2 n x y at_ a b r0 r1 h1 h2 _ _ i0 i1 =>
    intro k hk l hl hb
    simp only [List.length_append, List.length_cons, List.length_nil] at hb hk
    obtain ⟨k, rfl⟩ : ∃ m, k = m + 1 := ⟨k - 1, by omega⟩
    simp only [treeC]
    rw [if_neg (by omega), if_neg (by omega), if_pos h2, if_pos (by rw [h1]; rfl), h1]
    rw [show rd_T35 [x, y] 0 = x from rfl, show rd_T35 [x, y] 1 = y from rfl]
    rw [i0 k (by omega) l hl (by omega)]
    simp only [Option.bind_some]
    rw [put_ok (by simp only [List.length_append, List.length_cons, List.length_nil]; omega)]
    simp only [Option.bind_some]
    rw [i1 k (by omega) (l ++ a ++ [(⟨31, 0⟩ : S54)]) (by simp; omega) (by simp only [List.length_append, List.length_cons, List.length_nil]; omega)]
    simp only [Option.bind_some]
    rw [put_ok (by simp only [List.length_append, List.length_cons, List.length_nil]; omega)]
    simp only [Option.bind_some]
    rw [put_ok (by simp only [List.length_append, List.length_cons, List.length_nil]; omega)]
    simp only [Option.bind_some]
    rw [land_ok (p := l ++ a) (x := ⟨31, 0⟩) (q := b ++ [(⟨32, 0⟩ : S54)] ++ [(⟨30, 0⟩ : S54)]) (by simp)]
    simp only [Option.bind_some]
    rw [put_ok (by simp; omega)]
    simp only [Option.bind_some]
    rw [show (l ++ a ++ [(⟨31, 0⟩ : S54)] ++ b ++ [(⟨32, 0⟩ : S54)]).length = (l ++ a ++ [(⟨31, ((at_ + a.length + b.length + 3 : Nat) : Int)⟩ : S54)] ++ b ++ [(⟨32, 0⟩ : S54)]).length by simp]
    rw [land_ok (p := l ++ a ++ [(⟨31, ((at_ + a.length + b.length + 3 : Nat) : Int)⟩ : S54)] ++ b ++ [(⟨32, 0⟩ : S54)]) (x := ⟨30, 0⟩) (q := [(⟨1, 0⟩ : S54)]) (by simp; omega)]
    simp
    omega
  | or2 n x y at_ a b r0 r1 h1 h2 _ _ i0 i1 =>
    intro k hk l hl hb
    simp only [List.length_append, List.length_cons, List.length_nil] at hb hk
    obtain ⟨k, rfl⟩ : ∃ m, k = m + 1 := ⟨k - 1, by omega⟩
    simp only [treeC]
    rw [if_neg (by omega), if_neg (by omega), if_neg (by omega), if_pos h2, if_pos (by rw [h1]; rfl), h1]
    rw [show rd_T35 [x, y] 0 = x from rfl, show rd_T35 [x, y] 1 = y from rfl]
    rw [i0 k (by omega) l hl (by omega)]
    simp only [Option.bind_some]
    rw [put_ok (by simp only [List.length_append, List.length_cons, List.length_nil]; omega)]
    simp only [Option.bind_some]
    rw [put_ok (by simp only [List.length_append, List.length_cons, List.length_nil]; omega)]
    simp only [Option.bind_some]
    rw [put_ok (by simp only [List.length_append, List.length_cons, List.length_nil]; omega)]
    simp only [Option.bind_some]
    rw [land_ok (p := l ++ a) (x := ⟨31, 0⟩) (q := [(⟨1, 1⟩ : S54)] ++ [(⟨30, 0⟩ : S54)]) (by simp)]
    simp only [Option.bind_some]
    rw [i1 k (by omega) _ (by simp; omega) (by simp; omega)]
    simp only [Option.bind_some]
    rw [put_ok (by simp; omega)]
    simp only [Option.bind_some]
    rw [show (l ++ a ++ [(⟨31, 0⟩ : S54)] ++ [(⟨1, 1⟩ : S54)]).length = (l ++ a ++ [(⟨31, ((at_ + a.length + 3 : Nat) : Int)⟩ : S54)] ++ [(⟨1, 1⟩ : S54)]).length by simp]
    rw [land_ok (p := l ++ a ++ [(⟨31, ((at_ + a.length + 3 : Nat) : Int)⟩ : S54)] ++ [(⟨1, 1⟩ : S54)]) (x := ⟨30, 0⟩) (q := b ++ [(⟨32, 0⟩ : S54)]) (by simp; omega)]
    simp
    omega
  | one n x at_ a r0 h1 h2 _ i0 =>
    intro k hk l hl hb
    simp only [List.length_append, List.length_cons, List.length_nil] at hb hk
    obtain ⟨k, rfl⟩ : ∃ m, k = m + 1 := ⟨k - 1, by omega⟩
    simp only [treeC]
    rw [if_neg (by omega), if_neg (by omega), if_neg (by omega), if_neg (by omega), h1]
    simp only [allC]
    rw [i0 k (by omega) l hl (by omega)]
    simp only [Option.bind_some]
    rw [put_ok (by simp only [List.length_append]; omega)]
    simp
  | two n x y at_ a b r0 r1 h1 h2 _ _ i0 i1 =>
    intro k hk l hl hb
    simp only [List.length_append, List.length_cons, List.length_nil] at hb hk
    obtain ⟨k, rfl⟩ : ∃ m, k = m + 1 := ⟨k - 1, by omega⟩
    simp only [treeC]
    rw [if_neg (by omega), if_neg (by omega), if_neg (by omega), if_neg (by omega), h1]
    simp only [allC]
    rw [i0 k (by omega) l hl (by omega)]
    simp only [Option.bind_some]
    rw [i1 k (by omega) (l ++ a) (by simp; omega) (by simp only [List.length_append]; omega)]
    simp only [Option.bind_some]
    rw [put_ok (by simp only [List.length_append]; omega)]
    simp
/-- The compiler's block: it holds the instructions of the call's own. -/
def CompAt (B : Nat) (w : World) (cb : Nat) (l : List S54) : Prop := ∃ v, w.heap[cb]? = some (.cells #[v] 60 (0, 0)) ∧ Kd.R k54 54 w B (fun k => k ≠ cb) v l
/-- What is neither the compiler's block nor a block of instructions stays. -/
def Beside (cb : Nat) (w w' : World) : Prop := ∀ k cells t, w.heap[k]? = some (.cells cells t (0, 0)) → t ≠ 54 → k ≠ cb → w'.heap[k]? = some (.cells cells t (0, 0))
theorem Beside.refl (cb : Nat) (w : World) : Beside cb w w := fun _ _ _ h _ _ => h
theorem Beside.trans {cb : Nat} {w w1 w2 : World} (h : Beside cb w w1) (h' : Beside cb w1 w2) : Beside cb w w2 := fun k c t a b d => h' k c t (h k c t a b d) b d
set_option maxHeartbeats 1000000 in
set_option maxRecDepth 100000 in
theorem put_calls (B cb : Nat) (l : List S54) (op n : Int) (w : World) (hc : CompAt B w cb l) (hB : B ≤ cb) (hl : l.length < 1048576) :
    Calls Try.prog 44 #[.pointer (some ⟨cb, 0, none⟩), .int .i64 op, .int .i64 n] w fun e w' => e = .returned (.int .i64 (l.length : Int)) ∧ CompAt B w' cb (l ++ [⟨op, n⟩]) ∧ Below B w w' ∧ Beside cb w w' := by
  obtain ⟨v, hcb, HO⟩ := hc
  have hbc := cell_of_one hcb
  have hbf := free_of_one hcb
  have hbl := lt_of_block hcb
  obtain ⟨A, c, rfl, hlc, hread⟩ := Kd.R_reads HO
  have hne : ∀ k, (Value.slice A l.length c).ownBlock = some k → k ≠ cb := HO.1
  have hty : ∀ k, (Value.slice A l.length c).ownBlock = some k → ∃ cells, w.heap[k]? = some (.cells cells 54 (0, 0)) := by
    obtain ⟨inner, ho⟩ := Kd.R_own HO
    exact own_typed ho
  go_enter Try.func44, Try.ntmps44
  go_wp2_with (first | ((with_reducible refine gate_builtin (b := .append) (xs := #[.tmp 11, .tmp 15]) rfl ?_); (try (refine gate_guard (by rfl) ?_; dsimp only)); at_builtin; refine Kd.R_append k54 (w0 := w) B rfl (.tmp 11) (.tmp 15) 22 54 (.agg #[(.int .i64 0), (.int .i64 0)]) 16 rfl Try.underlying22 info54 rfl (by decide) (by omega) (.slice A l.length c) l ⟨op, n⟩ [.int .i64 op, .int .i64 n] (fun k => k ≠ cb) (fun _ => False) rfl rfl ?aP (fun _ hk => hk.elim) ?aF ?aO ?aB ?aS ?aL ?_; (case aP => exact k54_mkM _ _ _ ⟨op, n⟩); (case aB => exact Below.refl _ _); (case aF => exact fun k hk => (by omega)); (case aO => exact HO); (case aS => omega); (case aL => omega); intro v1 w1 ho hb hg hat; clear HO; have hcb1 := (hg.block cb hbl (fun e => hne cb e.symm rfl)).trans hcb; obtain ⟨A1, c1, rfl, hlc1, hread1⟩ := Kd.R_reads ho; rw [List.length_append] at *; simp only [List.length_cons, List.length_nil] at *; clear hat hread hread1; have hbc := cell_of_one hcb1; have hbf := free_of_one hcb1; have hbl1 := lt_of_block hcb1; have e1 : ((l.length + (0 + 1) : Nat) : Int) - 1 = (l.length : Int) := (by omega)))
  go_ret
  refine ⟨rfl, ⟨_, one_setCell hcb1, Kd.R_far (p := ⟨cb, 0, none⟩) ho (fun k hk => hk) _⟩, hb.setCell hB _, fun k cells t hk ht hkc => ?_⟩
  refine (Below.heap_setCell _ _ _ _ hkc).trans ((hg.block k (lt_of_block hk) (fun e => ?_)).trans hk)
  obtain ⟨cs, h2⟩ := hty k e.symm
  rw [hk] at h2
  injection h2 with h2
  injection h2 with _ h2
  exact ht h2
theorem R_at {B : Nat} {w : World} {ok : Nat → Prop} {A : Option Addr} {n c : Nat} {l : List S54} (h : Kd.R k54 54 w B ok (.slice A n c) l) (hn : 0 < n) : ∃ g, A = some ⟨g, 0, none⟩ ∧ B ≤ g ∧ ok g := by
  obtain ⟨h0, inner, ⟨_, ho⟩, _⟩ := h
  rcases ho with ⟨hv, _⟩ | ⟨g, cap, cur, hv, hb, _⟩
  · injection hv with _ h2 _; omega
  · injection hv with ha _ _
    subst ha
    exact ⟨g, rfl, hb, h0 g rfl⟩
set_option maxHeartbeats 1000000 in
set_option maxRecDepth 100000 in
theorem land_calls (B cb : Nat) (l : List S54) (i : Nat) (w : World) (hc : CompAt B w cb l) (hB : B ≤ cb) (hi : i < l.length) :
    Calls Try.prog 45 #[.pointer (some ⟨cb, 0, none⟩), .int .i64 (i : Int)] w fun e w' => e = .returned (.tuple #[]) ∧ CompAt B w' cb (l.set i ⟨(rd_T54 l (i : Int)).f0, (l.length : Int)⟩) ∧ Below B w w' ∧ Beside cb w w' := by
  obtain ⟨v, hcb, HO⟩ := hc
  have hbc := cell_of_one hcb
  have hbf := free_of_one hcb
  have hbl := lt_of_block hcb
  obtain ⟨A, c, rfl, hlc, hread⟩ := Kd.R_reads HO
  obtain ⟨g, rfl, hg, hgc⟩ := R_at HO (by omega)
  obtain ⟨cs, hcl, hM, hcc, hfz⟩ := Kd.R_elem HO z54 (i : Int) (by omega) (by omega)
  have hcs := k54_openM hM
  have hseg := Kd.R_seg HO (i : Int) (by omega) (by omega) hcl hcc (seg := [.int .i64 (l.length : Int)]) (j := 1) (Nat.le_refl 2) (x' := ⟨(rd_T54 l (i : Int)).f0, (l.length : Int)⟩) (okp := fun k => k ≠ cb ∧ k ≠ g) (by rw [hcs]; exact k54_mkM _ _ _ ⟨_, _⟩) (fun _ hk => hk)
  have hc1 := hcc 1 _ (by rw [hcs]; rfl)
  have hf1 := hfz 1
  have hgne : g ≠ cb := hgc
  have hty : ∀ k, (Value.slice (some ⟨g, 0, none⟩) l.length c).ownBlock = some k → ∃ cells, w.heap[k]? = some (.cells cells 54 (0, 0)) := by
    obtain ⟨inner, ho⟩ := Kd.R_own HO
    exact own_typed ho
  rw [Int.toNat_natCast] at hc1 hf1 hseg
  have e0 : k54.sz = 2 := rfl
  rw [e0] at hc1 hf1 hseg
  have d1 : decide ((i : Int) < (l.length : Int)) = true := decide_eq_true (by omega)
  clear HO hM hcc hfz hread
  go_enter Try.func45, Try.ntmps45
  go_region
  refine bodyPost_end (v := .tuple #[]) (by simp [results, Try.f45]) rfl ?_
  have hsg : (w.setCell ⟨g, i * 2 + 1, none⟩ (.int .i64 (l.length : Int))).drew.heap = (w.setCells g (i * 2 + 1) [.int .i64 (l.length : Int)]).heap := rfl
  have hbel : Below B w (w.setCell ⟨g, i * 2 + 1, none⟩ (.int .i64 (l.length : Int))).drew := ((Below.refl B w).setCell (p := ⟨g, i * 2 + 1, none⟩) hg _).drew
  refine ⟨rfl, ⟨_, (Below.heap_setCell _ ⟨g, i * 2 + 1, none⟩ _ _ (fun e => hgne e.symm)).trans hcb, Kd.R_drew hseg.1⟩, hbel, fun k cells t hk ht hkc => ?_⟩
  refine (Below.heap_setCell _ ⟨g, i * 2 + 1, none⟩ _ _ (fun e => ?_)).trans hk
  obtain ⟨cs, h2⟩ := hty g rfl
  rw [show k = g from e] at hk
  rw [hk] at h2
  injection h2 with h2
  injection h2 with _ h2
  exact ht h2
theorem cell_old {w0 W : World} (h : Below w0.heap.size w0 W) {p : Addr} {v : Value} (hc : w0.cell? p = some v) : W.cell? p = some v := by
  by_cases hp : p.block < w0.heap.size
  · rw [h.cell hp]; exact hc
  · exfalso
    unfold World.cell? at hc
    rw [Array.getElem?_eq_none (by omega)] at hc
    simp at hc
theorem box35 {w : World} {b : Nat} {x y z : Value} (h : w.heap[b]? = some (.cells #[x, y, z] 35 (0, 0))) : w.cell? ⟨b, 0, none⟩ = some x ∧ w.cell? ⟨b, 1, none⟩ = some y ∧ w.cell? ⟨b, 2, none⟩ = some z := by simp [World.cell?, h]
theorem put_some {l l' : List S54} {op n : Int} (h : put l op n = some l') : l.length < 1048576 ∧ l' = l ++ [⟨op, n⟩] := by
  unfold put at h
  split at h
  · rename_i c; exact ⟨c, (Option.some.inj h).symm⟩
  · cases h
theorem land_some {l l' : List S54} {i : Nat} (h : land l i = some l') : i < l.length ∧ l' = l.set i ⟨(rd_T54 l (i : Int)).f0, (l.length : Int)⟩ := by
  unfold land at h
  split at h
  · rename_i c; exact ⟨c, (Option.some.inj h).symm⟩
  · cases h
theorem kid_at {w : World} {A : Option Addr} {xs : List S35} (h : Kd.C k35 w A xs.length xs) (i : Nat) (h1 : i < xs.length) : ∃ ad A2 c2, A = some ad ∧ w.cell? (ad.add (i * 3)) = some (.int .i64 (rd_T35 xs (i : Int)).f0) ∧ w.cell? ⟨(ad.add (i * 3)).block, (ad.add (i * 3)).off + 1, none⟩ = some (.int .i64 (rd_T35 xs (i : Int)).f1) ∧ w.cell? ⟨(ad.add (i * 3)).block, (ad.add (i * 3)).off + 2, none⟩ = some (.slice A2 (rd_T35 xs (i : Int)).f2.length c2) ∧ (rd_T35 xs (i : Int)).f2.length ≤ c2 ∧ k35.C w A2 (rd_T35 xs (i : Int)).f2.length (rd_T35 xs (i : Int)).f2 :=
  at_T35 h (i : Int) (by omega) (by omega)
set_option maxHeartbeats 4000000 in
set_option maxRecDepth 100000 in
theorem tree_leaf (w0 : World) (cb : Nat) (hB : w0.heap.size ≤ cb) (k : Nat) (ih : ∀ (n : S35) (l l' : List S54), treeC k n l = some l' → ∀ (A : Option Addr) (c : Nat) (w : World), n.f2.length ≤ c → Kd.C k35 w0 A n.f2.length n.f2 → Below w0.heap.size w0 w → CompAt w0.heap.size w cb l →
    Calls Try.prog 31 #[.pointer (some ⟨cb, 0, none⟩), .agg #[.int .i64 n.f0, .int .i64 n.f1, .slice A n.f2.length c]] w fun e w' => e = .returned (.tuple #[]) ∧ Below w0.heap.size w0 w' ∧ CompAt w0.heap.size w' cb l' ∧ Beside cb w w')
    (op na : Int) (kids : List S35) (l l' : List S54) (A : Option Addr) (c : Nat) (w : World) (hlc : kids.length ≤ c) (hC : Kd.C k35 w0 A kids.length kids) (hb : Below w0.heap.size w0 w) (hK : CompAt w0.heap.size w cb l) (hl : l.length < 1048576) (ho : op = 1 ∨ op = 2 ∨ op = 3 ∨ op = 4) (hl' : l' = l ++ [⟨op, na⟩]) :
    Calls Try.prog 31 #[.pointer (some ⟨cb, 0, none⟩), .agg #[.int .i64 op, .int .i64 na, .slice A kids.length c]] w fun e w' => e = .returned (.tuple #[]) ∧ Below w0.heap.size w0 w' ∧ CompAt w0.heap.size w' cb l' ∧ Beside cb w w' := by
  have hcbl : cb < w.heap.size := by obtain ⟨v, hv, _⟩ := hK; exact lt_of_block hv
  have hcbne : w.heap.size ≠ cb := by omega
  have hX1 : (w.alloc (.cells #[.int .i64 op, .int .i64 na, .slice A kids.length c] 35)).heap[w.heap.size]? = some (.cells #[.int .i64 op, .int .i64 na, .slice A kids.length c] 35 (0, 0)) := heap_alloc_new _ _
  have hb1 : Below w0.heap.size w0 (w.alloc (.cells #[.int .i64 op, .int .i64 na, .slice A kids.length c] 35)) := hb.alloc (by omega) _
  have hK1 : CompAt w0.heap.size (w.alloc (.cells #[.int .i64 op, .int .i64 na, .slice A kids.length c] 35)) cb l := by
    obtain ⟨v, hv, ho⟩ := hK
    exact ⟨v, (Below.heap_alloc _ _ _ hcbl).trans hv, Kd.R_alloc ho _⟩
  have hS1 : Beside cb w (w.alloc (.cells #[.int .i64 op, .int .i64 na, .slice A kids.length c] 35)) := fun k cells t hk _ _ => (Below.heap_alloc _ _ _ (lt_of_block hk)).trans hk
  subst hl'
  rcases ho with rfl | rfl | rfl | rfl
  · go_enter Try.func31, Try.ntmps31
    go_wp2_with (first | (go_at_call 44; (with_reducible refine (put_calls w0.heap.size cb l _ _ _ hK1 hB hl).mono ?_); rintro e w2 ⟨rfl, hK2, hb2, hS2⟩))
    refine bodyPost_end (v := .tuple #[]) (by simp [results, Try.f31]) rfl ⟨rfl, hb1.trans hb2, hK2, hS1.trans hS2⟩
  · go_enter Try.func31, Try.ntmps31
    go_wp2_with (first | (go_at_call 44; (with_reducible refine (put_calls w0.heap.size cb l _ _ _ hK1 hB hl).mono ?_); rintro e w2 ⟨rfl, hK2, hb2, hS2⟩))
    refine bodyPost_end (v := .tuple #[]) (by simp [results, Try.f31]) rfl ⟨rfl, hb1.trans hb2, hK2, hS1.trans hS2⟩
  · go_enter Try.func31, Try.ntmps31
    go_wp2_with (first | (go_at_call 44; (with_reducible refine (put_calls w0.heap.size cb l _ _ _ hK1 hB hl).mono ?_); rintro e w2 ⟨rfl, hK2, hb2, hS2⟩))
    refine bodyPost_end (v := .tuple #[]) (by simp [results, Try.f31]) rfl ⟨rfl, hb1.trans hb2, hK2, hS1.trans hS2⟩
  · go_enter Try.func31, Try.ntmps31
    go_wp2_with (first | (go_at_call 44; (with_reducible refine (put_calls w0.heap.size cb l _ _ _ hK1 hB hl).mono ?_); rintro e w2 ⟨rfl, hK2, hb2, hS2⟩))
    refine bodyPost_end (v := .tuple #[]) (by simp [results, Try.f31]) rfl ⟨rfl, hb1.trans hb2, hK2, hS1.trans hS2⟩
set_option maxHeartbeats 4000000 in
set_option maxRecDepth 100000 in
theorem tree_if (w0 : World) (cb : Nat) (hB : w0.heap.size ≤ cb) (k : Nat) (ih : ∀ (n : S35) (l l' : List S54), treeC k n l = some l' → ∀ (A : Option Addr) (c : Nat) (w : World), n.f2.length ≤ c → Kd.C k35 w0 A n.f2.length n.f2 → Below w0.heap.size w0 w → CompAt w0.heap.size w cb l →
    Calls Try.prog 31 #[.pointer (some ⟨cb, 0, none⟩), .agg #[.int .i64 n.f0, .int .i64 n.f1, .slice A n.f2.length c]] w fun e w' => e = .returned (.tuple #[]) ∧ Below w0.heap.size w0 w' ∧ CompAt w0.heap.size w' cb l' ∧ Beside cb w w')
    (op na : Int) (kids : List S35) (l l' : List S54) (A : Option Addr) (c : Nat) (w : World) (hlc : kids.length ≤ c) (hC : Kd.C k35 w0 A kids.length kids) (hb : Below w0.heap.size w0 w) (hK : CompAt w0.heap.size w cb l) (ho : op = 22) (hk : 2 < kids.length) (m1 : List S54) (m2 : List S54) (m3 : List S54) (m4 : List S54) (m5 : List S54) (m6 : List S54) (h1 : treeC k (rd_T35 kids 0) l = some m1) (h2 : put m1 31 0 = some m2) (h3 : treeC k (rd_T35 kids 1) m2 = some m3) (h4 : put m3 30 0 = some m4) (h5 : land m4 m1.length = some m5) (h6 : treeC k (rd_T35 kids 2) m5 = some m6) (h7 : land m6 m3.length = some l') :
    Calls Try.prog 31 #[.pointer (some ⟨cb, 0, none⟩), .agg #[.int .i64 op, .int .i64 na, .slice A kids.length c]] w fun e w' => e = .returned (.tuple #[]) ∧ Below w0.heap.size w0 w' ∧ CompAt w0.heap.size w' cb l' ∧ Beside cb w w' := by
  have hcbl : cb < w.heap.size := by obtain ⟨v, hv, _⟩ := hK; exact lt_of_block hv
  have hcbne : w.heap.size ≠ cb := by omega
  have hX1 : (w.alloc (.cells #[.int .i64 op, .int .i64 na, .slice A kids.length c] 35)).heap[w.heap.size]? = some (.cells #[.int .i64 op, .int .i64 na, .slice A kids.length c] 35 (0, 0)) := heap_alloc_new _ _
  have hb1 : Below w0.heap.size w0 (w.alloc (.cells #[.int .i64 op, .int .i64 na, .slice A kids.length c] 35)) := hb.alloc (by omega) _
  have hK1 : CompAt w0.heap.size (w.alloc (.cells #[.int .i64 op, .int .i64 na, .slice A kids.length c] 35)) cb l := by
    obtain ⟨v, hv, ho⟩ := hK
    exact ⟨v, (Below.heap_alloc _ _ _ hcbl).trans hv, Kd.R_alloc ho _⟩
  have hS1 : Beside cb w (w.alloc (.cells #[.int .i64 op, .int .i64 na, .slice A kids.length c] 35)) := fun k cells t hk _ _ => (Below.heap_alloc _ _ _ (lt_of_block hk)).trans hk
  subst ho
  obtain ⟨ad, B0, d0, e0, x00, x01, x02, q0, C0⟩ := kid_at hC 0 (by omega)
  subst e0
  rw [show 0 * 3 = 0 from rfl] at x00 x01 x02
  rw [show ((0 : Nat) : Int) = 0 from rfl] at x00 x01 x02 q0 C0
  rw [Addr.add_zero'] at x00 x01 x02
  obtain ⟨ad1, B1, d1, e1, x10, x11, x12, q1, C1⟩ := kid_at hC 1 (by omega)
  obtain rfl := Option.some.inj e1
  rw [show 1 * 3 = 3 from rfl] at x10 x11 x12
  rw [show ((1 : Nat) : Int) = 1 from rfl] at x10 x11 x12 q1 C1
  change w0.cell? ⟨ad.block, ad.off + 3, none⟩ = _ at x10
  change w0.cell? ⟨ad.block, ad.off + 3 + 1, none⟩ = _ at x11
  change w0.cell? ⟨ad.block, ad.off + 3 + 2, none⟩ = _ at x12
  obtain ⟨ad2, B2, d2, e2, x20, x21, x22, q2, C2⟩ := kid_at hC 2 (by omega)
  obtain rfl := Option.some.inj e2
  rw [show 2 * 3 = 6 from rfl] at x20 x21 x22
  rw [show ((2 : Nat) : Int) = 2 from rfl] at x20 x21 x22 q2 C2
  change w0.cell? ⟨ad.block, ad.off + 6, none⟩ = _ at x20
  change w0.cell? ⟨ad.block, ad.off + 6 + 1, none⟩ = _ at x21
  change w0.cell? ⟨ad.block, ad.off + 6 + 2, none⟩ = _ at x22
  obtain ⟨g2, f2⟩ := put_some h2
  replace f2 := f2.symm
  obtain ⟨g4, f4⟩ := put_some h4
  replace f4 := f4.symm
  obtain ⟨g5, f5⟩ := land_some h5
  replace f5 := f5.symm
  obtain ⟨g7, f7⟩ := land_some h7
  replace f7 := f7.symm
  obtain ⟨y10, y11, y12⟩ := box35 hX1
  have x00_1 := cell_old hb1 x00
  have x01_1 := cell_old hb1 x01
  have x02_1 := cell_old hb1 x02
  have x10_1 := cell_old hb1 x10
  have x11_1 := cell_old hb1 x11
  have x12_1 := cell_old hb1 x12
  have x20_1 := cell_old hb1 x20
  have x21_1 := cell_old hb1 x21
  have x22_1 := cell_old hb1 x22
  have dk : decide ((0 : Int) < (kids.length : Int)) = true := decide_eq_true (by omega)
  have dk1 : decide ((1 : Int) < (kids.length : Int)) = true := decide_eq_true (by omega)
  have dk2 : decide ((2 : Int) < (kids.length : Int)) = true := decide_eq_true (by omega)
  go_enter Try.func31, Try.ntmps31
  go_wp2_with (first | (go_at_call 31; (with_reducible refine (ih (rd_T35 kids 0) _ _ h1 B0 d0 _ q0 C0 hb1 hK1).mono ?_); rintro e w2 ⟨rfl, hb2, hK2, hT2⟩; have hX2 := hT2 _ _ _ hX1 (by decide) hcbne; skip; obtain ⟨y20, y21, y22⟩ := box35 hX2; have x00_2 := cell_old hb2 x00; have x01_2 := cell_old hb2 x01; have x02_2 := cell_old hb2 x02; have x10_2 := cell_old hb2 x10; have x11_2 := cell_old hb2 x11; have x12_2 := cell_old hb2 x12; have x20_2 := cell_old hb2 x20; have x21_2 := cell_old hb2 x21; have x22_2 := cell_old hb2 x22) | (go_at_call 44; (with_reducible refine (put_calls w0.heap.size cb m1 31 0 _ hK2 hB g2).mono ?_); rintro e w3 ⟨rfl, hK3, hB3, hT3⟩; rw [f2] at hK3; have hX3 := hT3 _ _ _ hX2 (by decide) hcbne; have hb3 := hb2.trans hB3; obtain ⟨y30, y31, y32⟩ := box35 hX3; have x00_3 := cell_old hb3 x00; have x01_3 := cell_old hb3 x01; have x02_3 := cell_old hb3 x02; have x10_3 := cell_old hb3 x10; have x11_3 := cell_old hb3 x11; have x12_3 := cell_old hb3 x12; have x20_3 := cell_old hb3 x20; have x21_3 := cell_old hb3 x21; have x22_3 := cell_old hb3 x22) | (go_at_call 31; (with_reducible refine (ih (rd_T35 kids 1) _ _ h3 B1 d1 _ q1 C1 hb3 hK3).mono ?_); rintro e w4 ⟨rfl, hb4, hK4, hT4⟩; have hX4 := hT4 _ _ _ hX3 (by decide) hcbne; skip; obtain ⟨y40, y41, y42⟩ := box35 hX4; have x00_4 := cell_old hb4 x00; have x01_4 := cell_old hb4 x01; have x02_4 := cell_old hb4 x02; have x10_4 := cell_old hb4 x10; have x11_4 := cell_old hb4 x11; have x12_4 := cell_old hb4 x12; have x20_4 := cell_old hb4 x20; have x21_4 := cell_old hb4 x21; have x22_4 := cell_old hb4 x22) | (go_at_call 44; (with_reducible refine (put_calls w0.heap.size cb m3 30 0 _ hK4 hB g4).mono ?_); rintro e w5 ⟨rfl, hK5, hB5, hT5⟩; rw [f4] at hK5; have hX5 := hT5 _ _ _ hX4 (by decide) hcbne; have hb5 := hb4.trans hB5; obtain ⟨y50, y51, y52⟩ := box35 hX5; have x00_5 := cell_old hb5 x00; have x01_5 := cell_old hb5 x01; have x02_5 := cell_old hb5 x02; have x10_5 := cell_old hb5 x10; have x11_5 := cell_old hb5 x11; have x12_5 := cell_old hb5 x12; have x20_5 := cell_old hb5 x20; have x21_5 := cell_old hb5 x21; have x22_5 := cell_old hb5 x22) | (go_at_call 45; (with_reducible refine (land_calls w0.heap.size cb m4 m1.length _ hK5 hB g5).mono ?_); rintro e w6 ⟨rfl, hK6, hB6, hT6⟩; rw [f5] at hK6; have hX6 := hT6 _ _ _ hX5 (by decide) hcbne; have hb6 := hb5.trans hB6; obtain ⟨y60, y61, y62⟩ := box35 hX6; have x00_6 := cell_old hb6 x00; have x01_6 := cell_old hb6 x01; have x02_6 := cell_old hb6 x02; have x10_6 := cell_old hb6 x10; have x11_6 := cell_old hb6 x11; have x12_6 := cell_old hb6 x12; have x20_6 := cell_old hb6 x20; have x21_6 := cell_old hb6 x21; have x22_6 := cell_old hb6 x22) | (go_at_call 31; (with_reducible refine (ih (rd_T35 kids 2) _ _ h6 B2 d2 _ q2 C2 hb6 hK6).mono ?_); rintro e w7 ⟨rfl, hb7, hK7, hT7⟩; have hX7 := hT7 _ _ _ hX6 (by decide) hcbne; skip; obtain ⟨y70, y71, y72⟩ := box35 hX7; have x00_7 := cell_old hb7 x00; have x01_7 := cell_old hb7 x01; have x02_7 := cell_old hb7 x02; have x10_7 := cell_old hb7 x10; have x11_7 := cell_old hb7 x11; have x12_7 := cell_old hb7 x12; have x20_7 := cell_old hb7 x20; have x21_7 := cell_old hb7 x21; have x22_7 := cell_old hb7 x22) | (go_at_call 45; (with_reducible refine (land_calls w0.heap.size cb m6 m3.length _ hK7 hB g7).mono ?_); rintro e w8 ⟨rfl, hK8, hB8, hT8⟩; rw [f7] at hK8; have hX8 := hT8 _ _ _ hX7 (by decide) hcbne; have hb8 := hb7.trans hB8; obtain ⟨y80, y81, y82⟩ := box35 hX8; have x00_8 := cell_old hb8 x00; have x01_8 := cell_old hb8 x01; have x02_8 := cell_old hb8 x02; have x10_8 := cell_old hb8 x10; have x11_8 := cell_old hb8 x11; have x12_8 := cell_old hb8 x12; have x20_8 := cell_old hb8 x20; have x21_8 := cell_old hb8 x21; have x22_8 := cell_old hb8 x22))
  refine bodyPost_end (v := .tuple #[]) (by simp [results, Try.f31]) rfl ?_
  exact ⟨rfl, hb8, hK8, (((((((hS1.trans hT2).trans hT3).trans hT4).trans hT5).trans hT6).trans hT7).trans hT8)⟩
set_option maxHeartbeats 4000000 in
set_option maxRecDepth 100000 in
theorem tree_and (w0 : World) (cb : Nat) (hB : w0.heap.size ≤ cb) (k : Nat) (ih : ∀ (n : S35) (l l' : List S54), treeC k n l = some l' → ∀ (A : Option Addr) (c : Nat) (w : World), n.f2.length ≤ c → Kd.C k35 w0 A n.f2.length n.f2 → Below w0.heap.size w0 w → CompAt w0.heap.size w cb l →
    Calls Try.prog 31 #[.pointer (some ⟨cb, 0, none⟩), .agg #[.int .i64 n.f0, .int .i64 n.f1, .slice A n.f2.length c]] w fun e w' => e = .returned (.tuple #[]) ∧ Below w0.heap.size w0 w' ∧ CompAt w0.heap.size w' cb l' ∧ Beside cb w w')
    (op na : Int) (kids : List S35) (l l' : List S54) (A : Option Addr) (c : Nat) (w : World) (hlc : kids.length ≤ c) (hC : Kd.C k35 w0 A kids.length kids) (hb : Below w0.heap.size w0 w) (hK : CompAt w0.heap.size w cb l) (ho : op = 18) (hk : 1 < kids.length) (m1 : List S54) (m2 : List S54) (m3 : List S54) (m4 : List S54) (m5 : List S54) (m6 : List S54) (m7 : List S54) (h1 : treeC k (rd_T35 kids 0) l = some m1) (h2 : put m1 31 0 = some m2) (h3 : treeC k (rd_T35 kids 1) m2 = some m3) (h4 : put m3 32 0 = some m4) (h5 : put m4 30 0 = some m5) (h6 : land m5 m1.length = some m6) (h7 : put m6 1 0 = some m7) (h8 : land m7 m4.length = some l') :
    Calls Try.prog 31 #[.pointer (some ⟨cb, 0, none⟩), .agg #[.int .i64 op, .int .i64 na, .slice A kids.length c]] w fun e w' => e = .returned (.tuple #[]) ∧ Below w0.heap.size w0 w' ∧ CompAt w0.heap.size w' cb l' ∧ Beside cb w w' := by
  have hcbl : cb < w.heap.size := by obtain ⟨v, hv, _⟩ := hK; exact lt_of_block hv
  have hcbne : w.heap.size ≠ cb := by omega
  have hX1 : (w.alloc (.cells #[.int .i64 op, .int .i64 na, .slice A kids.length c] 35)).heap[w.heap.size]? = some (.cells #[.int .i64 op, .int .i64 na, .slice A kids.length c] 35 (0, 0)) := heap_alloc_new _ _
  have hb1 : Below w0.heap.size w0 (w.alloc (.cells #[.int .i64 op, .int .i64 na, .slice A kids.length c] 35)) := hb.alloc (by omega) _
  have hK1 : CompAt w0.heap.size (w.alloc (.cells #[.int .i64 op, .int .i64 na, .slice A kids.length c] 35)) cb l := by
    obtain ⟨v, hv, ho⟩ := hK
    exact ⟨v, (Below.heap_alloc _ _ _ hcbl).trans hv, Kd.R_alloc ho _⟩
  have hS1 : Beside cb w (w.alloc (.cells #[.int .i64 op, .int .i64 na, .slice A kids.length c] 35)) := fun k cells t hk _ _ => (Below.heap_alloc _ _ _ (lt_of_block hk)).trans hk
  subst ho
  obtain ⟨ad, B0, d0, e0, x00, x01, x02, q0, C0⟩ := kid_at hC 0 (by omega)
  subst e0
  rw [show 0 * 3 = 0 from rfl] at x00 x01 x02
  rw [show ((0 : Nat) : Int) = 0 from rfl] at x00 x01 x02 q0 C0
  rw [Addr.add_zero'] at x00 x01 x02
  obtain ⟨ad1, B1, d1, e1, x10, x11, x12, q1, C1⟩ := kid_at hC 1 (by omega)
  obtain rfl := Option.some.inj e1
  rw [show 1 * 3 = 3 from rfl] at x10 x11 x12
  rw [show ((1 : Nat) : Int) = 1 from rfl] at x10 x11 x12 q1 C1
  change w0.cell? ⟨ad.block, ad.off + 3, none⟩ = _ at x10
  change w0.cell? ⟨ad.block, ad.off + 3 + 1, none⟩ = _ at x11
  change w0.cell? ⟨ad.block, ad.off + 3 + 2, none⟩ = _ at x12
  obtain ⟨g2, f2⟩ := put_some h2
  replace f2 := f2.symm
  obtain ⟨g4, f4⟩ := put_some h4
  replace f4 := f4.symm
  obtain ⟨g5, f5⟩ := put_some h5
  replace f5 := f5.symm
  obtain ⟨g6, f6⟩ := land_some h6
  replace f6 := f6.symm
  obtain ⟨g7, f7⟩ := put_some h7
  replace f7 := f7.symm
  obtain ⟨g8, f8⟩ := land_some h8
  replace f8 := f8.symm
  obtain ⟨y10, y11, y12⟩ := box35 hX1
  have x00_1 := cell_old hb1 x00
  have x01_1 := cell_old hb1 x01
  have x02_1 := cell_old hb1 x02
  have x10_1 := cell_old hb1 x10
  have x11_1 := cell_old hb1 x11
  have x12_1 := cell_old hb1 x12
  have dk : decide ((0 : Int) < (kids.length : Int)) = true := decide_eq_true (by omega)
  have dk1 : decide ((1 : Int) < (kids.length : Int)) = true := decide_eq_true (by omega)
  go_enter Try.func31, Try.ntmps31
  go_wp2_with (first | (go_at_call 31; (with_reducible refine (ih (rd_T35 kids 0) _ _ h1 B0 d0 _ q0 C0 hb1 hK1).mono ?_); rintro e w2 ⟨rfl, hb2, hK2, hT2⟩; have hX2 := hT2 _ _ _ hX1 (by decide) hcbne; skip; obtain ⟨y20, y21, y22⟩ := box35 hX2; have x00_2 := cell_old hb2 x00; have x01_2 := cell_old hb2 x01; have x02_2 := cell_old hb2 x02; have x10_2 := cell_old hb2 x10; have x11_2 := cell_old hb2 x11; have x12_2 := cell_old hb2 x12) | (go_at_call 44; (with_reducible refine (put_calls w0.heap.size cb m1 31 0 _ hK2 hB g2).mono ?_); rintro e w3 ⟨rfl, hK3, hB3, hT3⟩; rw [f2] at hK3; have hX3 := hT3 _ _ _ hX2 (by decide) hcbne; have hb3 := hb2.trans hB3; obtain ⟨y30, y31, y32⟩ := box35 hX3; have x00_3 := cell_old hb3 x00; have x01_3 := cell_old hb3 x01; have x02_3 := cell_old hb3 x02; have x10_3 := cell_old hb3 x10; have x11_3 := cell_old hb3 x11; have x12_3 := cell_old hb3 x12) | (go_at_call 31; (with_reducible refine (ih (rd_T35 kids 1) _ _ h3 B1 d1 _ q1 C1 hb3 hK3).mono ?_); rintro e w4 ⟨rfl, hb4, hK4, hT4⟩; have hX4 := hT4 _ _ _ hX3 (by decide) hcbne; skip; obtain ⟨y40, y41, y42⟩ := box35 hX4; have x00_4 := cell_old hb4 x00; have x01_4 := cell_old hb4 x01; have x02_4 := cell_old hb4 x02; have x10_4 := cell_old hb4 x10; have x11_4 := cell_old hb4 x11; have x12_4 := cell_old hb4 x12) | (go_at_call 44; (with_reducible refine (put_calls w0.heap.size cb m3 32 0 _ hK4 hB g4).mono ?_); rintro e w5 ⟨rfl, hK5, hB5, hT5⟩; rw [f4] at hK5; have hX5 := hT5 _ _ _ hX4 (by decide) hcbne; have hb5 := hb4.trans hB5; obtain ⟨y50, y51, y52⟩ := box35 hX5; have x00_5 := cell_old hb5 x00; have x01_5 := cell_old hb5 x01; have x02_5 := cell_old hb5 x02; have x10_5 := cell_old hb5 x10; have x11_5 := cell_old hb5 x11; have x12_5 := cell_old hb5 x12) | (go_at_call 44; (with_reducible refine (put_calls w0.heap.size cb m4 30 0 _ hK5 hB g5).mono ?_); rintro e w6 ⟨rfl, hK6, hB6, hT6⟩; rw [f5] at hK6; have hX6 := hT6 _ _ _ hX5 (by decide) hcbne; have hb6 := hb5.trans hB6; obtain ⟨y60, y61, y62⟩ := box35 hX6; have x00_6 := cell_old hb6 x00; have x01_6 := cell_old hb6 x01; have x02_6 := cell_old hb6 x02; have x10_6 := cell_old hb6 x10; have x11_6 := cell_old hb6 x11; have x12_6 := cell_old hb6 x12) | (go_at_call 45; (with_reducible refine (land_calls w0.heap.size cb m5 m1.length _ hK6 hB g6).mono ?_); rintro e w7 ⟨rfl, hK7, hB7, hT7⟩; rw [f6] at hK7; have hX7 := hT7 _ _ _ hX6 (by decide) hcbne; have hb7 := hb6.trans hB7; obtain ⟨y70, y71, y72⟩ := box35 hX7; have x00_7 := cell_old hb7 x00; have x01_7 := cell_old hb7 x01; have x02_7 := cell_old hb7 x02; have x10_7 := cell_old hb7 x10; have x11_7 := cell_old hb7 x11; have x12_7 := cell_old hb7 x12) | (go_at_call 44; (with_reducible refine (put_calls w0.heap.size cb m6 1 0 _ hK7 hB g7).mono ?_); rintro e w8 ⟨rfl, hK8, hB8, hT8⟩; rw [f7] at hK8; have hX8 := hT8 _ _ _ hX7 (by decide) hcbne; have hb8 := hb7.trans hB8; obtain ⟨y80, y81, y82⟩ := box35 hX8; have x00_8 := cell_old hb8 x00; have x01_8 := cell_old hb8 x01; have x02_8 := cell_old hb8 x02; have x10_8 := cell_old hb8 x10; have x11_8 := cell_old hb8 x11; have x12_8 := cell_old hb8 x12) | (go_at_call 45; (with_reducible refine (land_calls w0.heap.size cb m7 m4.length _ hK8 hB g8).mono ?_); rintro e w9 ⟨rfl, hK9, hB9, hT9⟩; rw [f8] at hK9; have hX9 := hT9 _ _ _ hX8 (by decide) hcbne; have hb9 := hb8.trans hB9; obtain ⟨y90, y91, y92⟩ := box35 hX9; have x00_9 := cell_old hb9 x00; have x01_9 := cell_old hb9 x01; have x02_9 := cell_old hb9 x02; have x10_9 := cell_old hb9 x10; have x11_9 := cell_old hb9 x11; have x12_9 := cell_old hb9 x12))
  refine bodyPost_end (v := .tuple #[]) (by simp [results, Try.f31]) rfl ?_
  exact ⟨rfl, hb9, hK9, ((((((((hS1.trans hT2).trans hT3).trans hT4).trans hT5).trans hT6).trans hT7).trans hT8).trans hT9)⟩
set_option maxHeartbeats 4000000 in
set_option maxRecDepth 100000 in
theorem tree_or (w0 : World) (cb : Nat) (hB : w0.heap.size ≤ cb) (k : Nat) (ih : ∀ (n : S35) (l l' : List S54), treeC k n l = some l' → ∀ (A : Option Addr) (c : Nat) (w : World), n.f2.length ≤ c → Kd.C k35 w0 A n.f2.length n.f2 → Below w0.heap.size w0 w → CompAt w0.heap.size w cb l →
    Calls Try.prog 31 #[.pointer (some ⟨cb, 0, none⟩), .agg #[.int .i64 n.f0, .int .i64 n.f1, .slice A n.f2.length c]] w fun e w' => e = .returned (.tuple #[]) ∧ Below w0.heap.size w0 w' ∧ CompAt w0.heap.size w' cb l' ∧ Beside cb w w')
    (op na : Int) (kids : List S35) (l l' : List S54) (A : Option Addr) (c : Nat) (w : World) (hlc : kids.length ≤ c) (hC : Kd.C k35 w0 A kids.length kids) (hb : Below w0.heap.size w0 w) (hK : CompAt w0.heap.size w cb l) (ho : op = 19) (hk : 1 < kids.length) (m1 : List S54) (m2 : List S54) (m3 : List S54) (m4 : List S54) (m5 : List S54) (m6 : List S54) (m7 : List S54) (h1 : treeC k (rd_T35 kids 0) l = some m1) (h2 : put m1 31 0 = some m2) (h3 : put m2 1 1 = some m3) (h4 : put m3 30 0 = some m4) (h5 : land m4 m1.length = some m5) (h6 : treeC k (rd_T35 kids 1) m5 = some m6) (h7 : put m6 32 0 = some m7) (h8 : land m7 m3.length = some l') :
    Calls Try.prog 31 #[.pointer (some ⟨cb, 0, none⟩), .agg #[.int .i64 op, .int .i64 na, .slice A kids.length c]] w fun e w' => e = .returned (.tuple #[]) ∧ Below w0.heap.size w0 w' ∧ CompAt w0.heap.size w' cb l' ∧ Beside cb w w' := by
  have hcbl : cb < w.heap.size := by obtain ⟨v, hv, _⟩ := hK; exact lt_of_block hv
  have hcbne : w.heap.size ≠ cb := by omega
  have hX1 : (w.alloc (.cells #[.int .i64 op, .int .i64 na, .slice A kids.length c] 35)).heap[w.heap.size]? = some (.cells #[.int .i64 op, .int .i64 na, .slice A kids.length c] 35 (0, 0)) := heap_alloc_new _ _
  have hb1 : Below w0.heap.size w0 (w.alloc (.cells #[.int .i64 op, .int .i64 na, .slice A kids.length c] 35)) := hb.alloc (by omega) _
  have hK1 : CompAt w0.heap.size (w.alloc (.cells #[.int .i64 op, .int .i64 na, .slice A kids.length c] 35)) cb l := by
    obtain ⟨v, hv, ho⟩ := hK
    exact ⟨v, (Below.heap_alloc _ _ _ hcbl).trans hv, Kd.R_alloc ho _⟩
  have hS1 : Beside cb w (w.alloc (.cells #[.int .i64 op, .int .i64 na, .slice A kids.length c] 35)) := fun k cells t hk _ _ => (Below.heap_alloc _ _ _ (lt_of_block hk)).trans hk
  subst ho
  obtain ⟨ad, B0, d0, e0, x00, x01, x02, q0, C0⟩ := kid_at hC 0 (by omega)
  subst e0
  rw [show 0 * 3 = 0 from rfl] at x00 x01 x02
  rw [show ((0 : Nat) : Int) = 0 from rfl] at x00 x01 x02 q0 C0
  rw [Addr.add_zero'] at x00 x01 x02
  obtain ⟨ad1, B1, d1, e1, x10, x11, x12, q1, C1⟩ := kid_at hC 1 (by omega)
  obtain rfl := Option.some.inj e1
  rw [show 1 * 3 = 3 from rfl] at x10 x11 x12
  rw [show ((1 : Nat) : Int) = 1 from rfl] at x10 x11 x12 q1 C1
  change w0.cell? ⟨ad.block, ad.off + 3, none⟩ = _ at x10
  change w0.cell? ⟨ad.block, ad.off + 3 + 1, none⟩ = _ at x11
  change w0.cell? ⟨ad.block, ad.off + 3 + 2, none⟩ = _ at x12
  obtain ⟨g2, f2⟩ := put_some h2
  replace f2 := f2.symm
  obtain ⟨g3, f3⟩ := put_some h3
  replace f3 := f3.symm
  obtain ⟨g4, f4⟩ := put_some h4
  replace f4 := f4.symm
  obtain ⟨g5, f5⟩ := land_some h5
  replace f5 := f5.symm
  obtain ⟨g7, f7⟩ := put_some h7
  replace f7 := f7.symm
  obtain ⟨g8, f8⟩ := land_some h8
  replace f8 := f8.symm
  obtain ⟨y10, y11, y12⟩ := box35 hX1
  have x00_1 := cell_old hb1 x00
  have x01_1 := cell_old hb1 x01
  have x02_1 := cell_old hb1 x02
  have x10_1 := cell_old hb1 x10
  have x11_1 := cell_old hb1 x11
  have x12_1 := cell_old hb1 x12
  have dk : decide ((0 : Int) < (kids.length : Int)) = true := decide_eq_true (by omega)
  have dk1 : decide ((1 : Int) < (kids.length : Int)) = true := decide_eq_true (by omega)
  go_enter Try.func31, Try.ntmps31
  go_wp2_with (first | (go_at_call 31; (with_reducible refine (ih (rd_T35 kids 0) _ _ h1 B0 d0 _ q0 C0 hb1 hK1).mono ?_); rintro e w2 ⟨rfl, hb2, hK2, hT2⟩; have hX2 := hT2 _ _ _ hX1 (by decide) hcbne; skip; obtain ⟨y20, y21, y22⟩ := box35 hX2; have x00_2 := cell_old hb2 x00; have x01_2 := cell_old hb2 x01; have x02_2 := cell_old hb2 x02; have x10_2 := cell_old hb2 x10; have x11_2 := cell_old hb2 x11; have x12_2 := cell_old hb2 x12) | (go_at_call 44; (with_reducible refine (put_calls w0.heap.size cb m1 31 0 _ hK2 hB g2).mono ?_); rintro e w3 ⟨rfl, hK3, hB3, hT3⟩; rw [f2] at hK3; have hX3 := hT3 _ _ _ hX2 (by decide) hcbne; have hb3 := hb2.trans hB3; obtain ⟨y30, y31, y32⟩ := box35 hX3; have x00_3 := cell_old hb3 x00; have x01_3 := cell_old hb3 x01; have x02_3 := cell_old hb3 x02; have x10_3 := cell_old hb3 x10; have x11_3 := cell_old hb3 x11; have x12_3 := cell_old hb3 x12) | (go_at_call 44; (with_reducible refine (put_calls w0.heap.size cb m2 1 1 _ hK3 hB g3).mono ?_); rintro e w4 ⟨rfl, hK4, hB4, hT4⟩; rw [f3] at hK4; have hX4 := hT4 _ _ _ hX3 (by decide) hcbne; have hb4 := hb3.trans hB4; obtain ⟨y40, y41, y42⟩ := box35 hX4; have x00_4 := cell_old hb4 x00; have x01_4 := cell_old hb4 x01; have x02_4 := cell_old hb4 x02; have x10_4 := cell_old hb4 x10; have x11_4 := cell_old hb4 x11; have x12_4 := cell_old hb4 x12) | (go_at_call 44; (with_reducible refine (put_calls w0.heap.size cb m3 30 0 _ hK4 hB g4).mono ?_); rintro e w5 ⟨rfl, hK5, hB5, hT5⟩; rw [f4] at hK5; have hX5 := hT5 _ _ _ hX4 (by decide) hcbne; have hb5 := hb4.trans hB5; obtain ⟨y50, y51, y52⟩ := box35 hX5; have x00_5 := cell_old hb5 x00; have x01_5 := cell_old hb5 x01; have x02_5 := cell_old hb5 x02; have x10_5 := cell_old hb5 x10; have x11_5 := cell_old hb5 x11; have x12_5 := cell_old hb5 x12) | (go_at_call 45; (with_reducible refine (land_calls w0.heap.size cb m4 m1.length _ hK5 hB g5).mono ?_); rintro e w6 ⟨rfl, hK6, hB6, hT6⟩; rw [f5] at hK6; have hX6 := hT6 _ _ _ hX5 (by decide) hcbne; have hb6 := hb5.trans hB6; obtain ⟨y60, y61, y62⟩ := box35 hX6; have x00_6 := cell_old hb6 x00; have x01_6 := cell_old hb6 x01; have x02_6 := cell_old hb6 x02; have x10_6 := cell_old hb6 x10; have x11_6 := cell_old hb6 x11; have x12_6 := cell_old hb6 x12) | (go_at_call 31; (with_reducible refine (ih (rd_T35 kids 1) _ _ h6 B1 d1 _ q1 C1 hb6 hK6).mono ?_); rintro e w7 ⟨rfl, hb7, hK7, hT7⟩; have hX7 := hT7 _ _ _ hX6 (by decide) hcbne; skip; obtain ⟨y70, y71, y72⟩ := box35 hX7; have x00_7 := cell_old hb7 x00; have x01_7 := cell_old hb7 x01; have x02_7 := cell_old hb7 x02; have x10_7 := cell_old hb7 x10; have x11_7 := cell_old hb7 x11; have x12_7 := cell_old hb7 x12) | (go_at_call 44; (with_reducible refine (put_calls w0.heap.size cb m6 32 0 _ hK7 hB g7).mono ?_); rintro e w8 ⟨rfl, hK8, hB8, hT8⟩; rw [f7] at hK8; have hX8 := hT8 _ _ _ hX7 (by decide) hcbne; have hb8 := hb7.trans hB8; obtain ⟨y80, y81, y82⟩ := box35 hX8; have x00_8 := cell_old hb8 x00; have x01_8 := cell_old hb8 x01; have x02_8 := cell_old hb8 x02; have x10_8 := cell_old hb8 x10; have x11_8 := cell_old hb8 x11; have x12_8 := cell_old hb8 x12) | (go_at_call 45; (with_reducible refine (land_calls w0.heap.size cb m7 m3.length _ hK8 hB g8).mono ?_); rintro e w9 ⟨rfl, hK9, hB9, hT9⟩; rw [f8] at hK9; have hX9 := hT9 _ _ _ hX8 (by decide) hcbne; have hb9 := hb8.trans hB9; obtain ⟨y90, y91, y92⟩ := box35 hX9; have x00_9 := cell_old hb9 x00; have x01_9 := cell_old hb9 x01; have x02_9 := cell_old hb9 x02; have x10_9 := cell_old hb9 x10; have x11_9 := cell_old hb9 x11; have x12_9 := cell_old hb9 x12))
  refine bodyPost_end (v := .tuple #[]) (by simp [results, Try.f31]) rfl ?_
  exact ⟨rfl, hb9, hK9, ((((((((hS1.trans hT2).trans hT3).trans hT4).trans hT5).trans hT6).trans hT7).trans hT8).trans hT9)⟩
set_option maxHeartbeats 4000000 in
set_option maxRecDepth 100000 in
theorem tree_other (w0 : World) (cb : Nat) (hB : w0.heap.size ≤ cb) (k : Nat) (ih : ∀ (n : S35) (l l' : List S54), treeC k n l = some l' → ∀ (A : Option Addr) (c : Nat) (w : World), n.f2.length ≤ c → Kd.C k35 w0 A n.f2.length n.f2 → Below w0.heap.size w0 w → CompAt w0.heap.size w cb l →
    Calls Try.prog 31 #[.pointer (some ⟨cb, 0, none⟩), .agg #[.int .i64 n.f0, .int .i64 n.f1, .slice A n.f2.length c]] w fun e w' => e = .returned (.tuple #[]) ∧ Below w0.heap.size w0 w' ∧ CompAt w0.heap.size w' cb l' ∧ Beside cb w w')
    (op na : Int) (kids : List S35) (l l' : List S54) (A : Option Addr) (c : Nat) (w : World) (hlc : kids.length ≤ c) (hC : Kd.C k35 w0 A kids.length kids) (hb : Below w0.heap.size w0 w) (hK : CompAt w0.heap.size w cb l) (m : List S54) (h1 : allC (treeC k) kids l = some m) (h2 : put m op 0 = some l') (o1 : op ≠ 1) (o2 : op ≠ 2) (o3 : op ≠ 3) (o4 : op ≠ 4) (o5 : op ≠ 22) (o6 : op ≠ 18) (o7 : op ≠ 19) :
    Calls Try.prog 31 #[.pointer (some ⟨cb, 0, none⟩), .agg #[.int .i64 op, .int .i64 na, .slice A kids.length c]] w fun e w' => e = .returned (.tuple #[]) ∧ Below w0.heap.size w0 w' ∧ CompAt w0.heap.size w' cb l' ∧ Beside cb w w' := by
  have hcbl : cb < w.heap.size := by obtain ⟨v, hv, _⟩ := hK; exact lt_of_block hv
  have hcbne : w.heap.size ≠ cb := by omega
  have hX1 : (w.alloc (.cells #[.int .i64 op, .int .i64 na, .slice A kids.length c] 35)).heap[w.heap.size]? = some (.cells #[.int .i64 op, .int .i64 na, .slice A kids.length c] 35 (0, 0)) := heap_alloc_new _ _
  have hb1 : Below w0.heap.size w0 (w.alloc (.cells #[.int .i64 op, .int .i64 na, .slice A kids.length c] 35)) := hb.alloc (by omega) _
  have hK1 : CompAt w0.heap.size (w.alloc (.cells #[.int .i64 op, .int .i64 na, .slice A kids.length c] 35)) cb l := by
    obtain ⟨v, hv, ho⟩ := hK
    exact ⟨v, (Below.heap_alloc _ _ _ hcbl).trans hv, Kd.R_alloc ho _⟩
  have hS1 : Beside cb w (w.alloc (.cells #[.int .i64 op, .int .i64 na, .slice A kids.length c] 35)) := fun k cells t hk _ _ => (Below.heap_alloc _ _ _ (lt_of_block hk)).trans hk
  have p1 : (op == 1) = false := beq_eq_false_iff_ne.2 o1
  have p2 : (op == 2) = false := beq_eq_false_iff_ne.2 o2
  have p3 : (op == 3) = false := beq_eq_false_iff_ne.2 o3
  have p4 : (op == 4) = false := beq_eq_false_iff_ne.2 o4
  have p5 : (op == 22) = false := beq_eq_false_iff_ne.2 o5
  have p6 : (op == 18) = false := beq_eq_false_iff_ne.2 o6
  have p7 : (op == 19) = false := beq_eq_false_iff_ne.2 o7
  obtain ⟨g2, f2⟩ := put_some h2
  obtain ⟨y10, y11, y12⟩ := box35 hX1
  go_enter Try.func31, Try.ntmps31
  go_wp2
  go_loopg [17] kids.length (fun kq v17 wr => ∃ (i : Nat) (cur : List S54), v17 = .int .i64 (i : Int) ∧ i ≤ kids.length ∧ kids.length - i ≤ kq ∧ allC (treeC k) (kids.drop i) cur = some m ∧ Below w0.heap.size w0 wr ∧ CompAt w0.heap.size wr cb cur ∧ Beside cb w wr ∧
    wr.heap[w.heap.size]? = some (.cells #[.int .i64 op, .int .i64 na, .slice A kids.length c] 35 (0, 0)))
  case atStart => exact ⟨0, l, rfl, Nat.zero_le _, by omega, h1, hb1, hK1, hS1, hX1⟩
  case round =>
    obtain ⟨i, cur, rfl, hi, hik, hcur, hbr, hKr, hSr, hXr⟩ := hrel
    by_cases hlt : i < kids.length
    · have d1 : decide ((i : Int) < (kids.length : Int)) = true := decide_eq_true (by omega)
      obtain ⟨ad, B0, d0, e0, x0, x1, x2, q0, C0⟩ := kid_at hC i hlt
      subst e0
      replace x0 := cell_old hbr x0
      replace x1 := cell_old hbr x1
      replace x2 := cell_old hbr x2
      rw [List.drop_eq_getElem_cons hlt, allC, show kids[i] = rd_T35 kids (i : Int) by unfold rd_T35; simp [List.getD_eq_getElem?_getD, hlt]] at hcur
      obtain ⟨cur2, h3, hcur⟩ := Option.bind_eq_some_iff.1 hcur
      have hcbr : cb < wr.heap.size := by obtain ⟨v, hv, _⟩ := hKr; exact lt_of_block hv
      have hKa : CompAt w0.heap.size (wr.alloc (.cells #[.int .i64 (rd_T35 kids (i : Int)).f0, .int .i64 (rd_T35 kids (i : Int)).f1, .slice B0 (rd_T35 kids (i : Int)).f2.length d0] 35)) cb cur := by
        obtain ⟨v, hv, ho⟩ := hKr
        exact ⟨v, (Below.heap_alloc _ _ _ hcbr).trans hv, Kd.R_alloc ho _⟩
      have hba : Below w0.heap.size w0 (wr.alloc (.cells #[.int .i64 (rd_T35 kids (i : Int)).f0, .int .i64 (rd_T35 kids (i : Int)).f1, .slice B0 (rd_T35 kids (i : Int)).f2.length d0] 35)) := hbr.alloc (by omega) _
      have hSa : Beside cb wr (wr.alloc (.cells #[.int .i64 (rd_T35 kids (i : Int)).f0, .int .i64 (rd_T35 kids (i : Int)).f1, .slice B0 (rd_T35 kids (i : Int)).f2.length d0] 35)) := fun k cells t hk _ _ => (Below.heap_alloc _ _ _ (lt_of_block hk)).trans hk
      cases gk with
      | zero => omega
      | succ gk =>
      go_wp2_with (first | (go_at_call 31; (with_reducible refine (ih (rd_T35 kids (i : Int)) _ _ h3 B0 d0 _ q0 C0 hba hKa).mono ?_); rintro e w2 ⟨rfl, hb2, hK2, hS2⟩))
      go_roundg gk
      case measure => omega
      case rel => exact ⟨i + 1, cur2, by rw [show wrap64 ((i : Int) + 1) = ((i + 1 : Nat) : Int) by unfold wrap64; have := hC.2.1; omega], by omega, by omega, hcur, hb2, hK2, (hSr.trans hSa).trans hS2, hS2 _ _ _ (hSa _ _ _ hXr (by decide) hcbne) (by decide) hcbne⟩
    · have d1 : decide ((i : Int) < (kids.length : Int)) = false := decide_eq_false (by omega)
      obtain ⟨y0, y1, y2⟩ := box35 hXr
      rw [List.drop_eq_nil_of_le (by omega), allC] at hcur
      obtain rfl := Option.some.inj hcur
      go_wp2_with (first | (go_at_call 44; (with_reducible refine (put_calls w0.heap.size cb cur op 0 _ hKr hB g2).mono ?_); rintro e w2 ⟨rfl, hK2, hb2, hS2⟩))
      rw [← f2] at hK2
      refine bodyPost_end (v := .tuple #[]) (by simp [results, Try.f31]) rfl ⟨rfl, hbr.trans hb2, hK2, hSr.trans hS2⟩
theorem tree_calls (w0 : World) (cb : Nat) (hB : w0.heap.size ≤ cb) : ∀ (k : Nat) (n : S35) (l l' : List S54), treeC k n l = some l' → ∀ (A : Option Addr) (c : Nat) (w : World), n.f2.length ≤ c → Kd.C k35 w0 A n.f2.length n.f2 → Below w0.heap.size w0 w → CompAt w0.heap.size w cb l →
    Calls Try.prog 31 #[.pointer (some ⟨cb, 0, none⟩), .agg #[.int .i64 n.f0, .int .i64 n.f1, .slice A n.f2.length c]] w fun e w' => e = .returned (.tuple #[]) ∧ Below w0.heap.size w0 w' ∧ CompAt w0.heap.size w' cb l' ∧ Beside cb w w' := by
  intro k
  induction k with
  | zero => intro n l l' h; cases h
  | succ k ih =>
    intro n l l' h A c w hlc hC hb hK
    obtain ⟨op, na, kids⟩ := n
    simp only [treeC] at h
    simp only at hlc hC ⊢
    by_cases c1 : op = 1 ∨ op = 2 ∨ op = 3 ∨ op = 4
    · rw [if_pos c1] at h
      obtain ⟨hl, hl'⟩ := put_some h
      exact tree_leaf w0 cb hB k ih op na kids l _ A c w hlc hC hb hK hl c1 hl'
    rw [if_neg c1] at h
    by_cases c2 : op = 22
    · rw [if_pos c2] at h
      split at h
      case isFalse => cases h
      case isTrue hk =>
      obtain ⟨m1, h1, h⟩ := Option.bind_eq_some_iff.1 h
      obtain ⟨m2, h2, h⟩ := Option.bind_eq_some_iff.1 h
      obtain ⟨m3, h3, h⟩ := Option.bind_eq_some_iff.1 h
      obtain ⟨m4, h4, h⟩ := Option.bind_eq_some_iff.1 h
      obtain ⟨m5, h5, h⟩ := Option.bind_eq_some_iff.1 h
      obtain ⟨m6, h6, h⟩ := Option.bind_eq_some_iff.1 h
      exact tree_if w0 cb hB k ih op na kids l l' A c w hlc hC hb hK c2 (by omega) m1 m2 m3 m4 m5 m6 h1 h2 h3 h4 h5 h6 h
    rw [if_neg c2] at h
    by_cases c3 : op = 18
    · rw [if_pos c3] at h
      split at h
      case isFalse => cases h
      case isTrue hk =>
      obtain ⟨m1, h1, h⟩ := Option.bind_eq_some_iff.1 h
      obtain ⟨m2, h2, h⟩ := Option.bind_eq_some_iff.1 h
      obtain ⟨m3, h3, h⟩ := Option.bind_eq_some_iff.1 h
      obtain ⟨m4, h4, h⟩ := Option.bind_eq_some_iff.1 h
      obtain ⟨m5, h5, h⟩ := Option.bind_eq_some_iff.1 h
      obtain ⟨m6, h6, h⟩ := Option.bind_eq_some_iff.1 h
      obtain ⟨m7, h7, h⟩ := Option.bind_eq_some_iff.1 h
      exact tree_and w0 cb hB k ih op na kids l l' A c w hlc hC hb hK c3 (by omega) m1 m2 m3 m4 m5 m6 m7 h1 h2 h3 h4 h5 h6 h7 h
    rw [if_neg c3] at h
    by_cases c4 : op = 19
    · rw [if_pos c4] at h
      split at h
      case isFalse => cases h
      case isTrue hk =>
      obtain ⟨m1, h1, h⟩ := Option.bind_eq_some_iff.1 h
      obtain ⟨m2, h2, h⟩ := Option.bind_eq_some_iff.1 h
      obtain ⟨m3, h3, h⟩ := Option.bind_eq_some_iff.1 h
      obtain ⟨m4, h4, h⟩ := Option.bind_eq_some_iff.1 h
      obtain ⟨m5, h5, h⟩ := Option.bind_eq_some_iff.1 h
      obtain ⟨m6, h6, h⟩ := Option.bind_eq_some_iff.1 h
      obtain ⟨m7, h7, h⟩ := Option.bind_eq_some_iff.1 h
      exact tree_or w0 cb hB k ih op na kids l l' A c w hlc hC hb hK c4 (by omega) m1 m2 m3 m4 m5 m6 m7 h1 h2 h3 h4 h5 h6 h7 h
    rw [if_neg c4] at h
    obtain ⟨m, h1, h2⟩ := Option.bind_eq_some_iff.1 h
    exact tree_other w0 cb hB k ih op na kids l l' A c w hlc hC hb hK m h1 h2 (by omega) (by omega) (by omega) (by omega) c2 c3 c4
def code_Compile.f (k : Nat) (a0_0 a0_1 : Int) (l0_2 : List S35) : Option (List S54 × Int) :=
  (tree_Check.f k a0_0 a0_1 l0_2).bind fun e => if e = 0 then ((treeC 1100 ⟨a0_0, a0_1, l0_2⟩ []).bind fun l => if hOk l = true then some (l, 0) else some ([], 5)) else some ([], 1)
theorem code_Compile.mono : ∀ a0_0 a0_1 l0_2 k, LeO (code_Compile.f k a0_0 a0_1 l0_2) (code_Compile.f (k + 1) a0_0 a0_1 l0_2) := by
  intro a0_0 a0_1 l0_2 k
  unfold code_Compile.f
  exact LeO.bind (tree_Check.mono _ _ _ _) (fun _ => LeO.refl _)
set_option maxHeartbeats 4000000 in
set_option maxRecDepth 100000 in
theorem code_Compile.calls (k : Nat) (a0_0 : Int) (a0_1 : Int) (A0_2 : Option Addr) (c0_2 : Nat) (l0_2 : List (S35)) (r1 : List (S54)) (r2 : Int) (w : World) (hr0_2 : Kd.C k35 w A0_2 l0_2.length l0_2) (hc0_2 : l0_2.length ≤ c0_2) (h : code_Compile.f k a0_0 a0_1 l0_2 = some (r1, r2)) :
    Calls Try.prog 16 #[.agg #[.int .i64 a0_0, .int .i64 a0_1, .slice A0_2 l0_2.length c0_2]] w fun e w' => ∃ v0_ : Value, e = .returned (.tuple #[v0_, .int .i64 r2]) ∧ Kd.R k54 54 w' w.heap.size (fun _ => True) v0_ r1 ∧ Below w.heap.size w w' := by
  unfold code_Compile.f at h
  obtain ⟨ce, h1, h⟩ := Option.bind_eq_some_iff.1 h
  have hb1 : Below w.heap.size w (w.alloc (.cells #[.int .i64 a0_0, .int .i64 a0_1, .slice A0_2 l0_2.length c0_2] 35)) := (Below.refl _ _).alloc (Nat.le_refl _) _
  have hX1 : (w.alloc (.cells #[.int .i64 a0_0, .int .i64 a0_1, .slice A0_2 l0_2.length c0_2] 35)).heap[w.heap.size]? = some (.cells #[.int .i64 a0_0, .int .i64 a0_1, .slice A0_2 l0_2.length c0_2] 35 (0, 0)) := heap_alloc_new _ _
  have hr1 := Kd.C_below hr0_2 hb1
  have hsz := World.size_alloc w (.cells #[.int .i64 a0_0, .int .i64 a0_1, .slice A0_2 l0_2.length c0_2] 35)
  obtain ⟨y0, y1, y2⟩ := box35 hX1
  by_cases c1 : ce = 0
  · subst c1
    rw [if_pos rfl] at h
    obtain ⟨l, h2, h⟩ := Option.bind_eq_some_iff.1 h
    have step : ∀ (w2 : World), Below w.heap.size w w2 → w2.heap[w.heap.size]? = some (.cells #[.int .i64 a0_0, .int .i64 a0_1, .slice A0_2 l0_2.length c0_2] 35 (0, 0)) →
        CompAt w.heap.size (w2.alloc (.cells #[.slice none 0 0] 60)) w2.heap.size [] := fun w2 hb hX => ⟨_, heap_alloc_new _ _, Kd.R_nil _ _ _ _ _⟩
    cases hO : hOk l with
    | true =>
      rw [hO, if_pos rfl] at h
      obtain ⟨rfl, rfl⟩ : l = r1 ∧ 0 = r2 := by simpa using h
      clear h
      go_enter Try.func16, Try.ntmps16
      go_wp2_with (first | (go_at_call 30; (with_reducible refine (tree_Check.calls k a0_0 a0_1 A0_2 c0_2 l0_2 0 _ hr1 hc0_2 h1).mono ?_); rintro e w2 ⟨rfl, hb2⟩; have hX2 := (hb2.block _ (by omega)).trans hX1; have hb3 : Below w.heap.size w w2 := hb1.trans (hb2.mono (by omega)); obtain ⟨y20, y21, y22⟩ := box35 hX2; have hl2 := lt_of_block hX2; have hX3 := (Below.heap_alloc w2 (.cells #[.slice none 0 0] 60) _ hl2).trans hX2; obtain ⟨y30, y31, y32⟩ := box35 hX3; have hK3 := step w2 hb3 hX2; have hb4 : Below w.heap.size w (w2.alloc (.cells #[.slice none 0 0] 60)) := hb3.alloc (by omega) _; clear hb2) | (go_at_call 31; refine (tree_calls w w2.heap.size (by omega) 1100 ⟨a0_0, a0_1, l0_2⟩ [] l h2 A0_2 c0_2 _ hc0_2 hr0_2 hb4 hK3).mono ?_; rintro e w5 ⟨rfl, hb5, hK5, hS5⟩; obtain ⟨v5, hc5, hR5⟩ := hK5; obtain ⟨A5, c5, rfl, hlc5, hread5⟩ := Kd.R_reads hR5; have hcc5 := cell_of_one hc5; have hl5 := lt_of_block hc5) | (go_at_call 11; (with_reducible refine (check_calls A5 c5 l _ hread5 hlc5).mono ?_); rintro e w6 ⟨rfl, hb6⟩; rw [hO]; have hR6 := Kd.R_below hR5 hb6; have hcc6 := cell_of_one ((hb6.block _ hl5).trans hc5); have hb7 : Below w.heap.size w w6 := below_then hb5 hb5.size hb6))
      go_ret2
      exact ⟨_, rfl, Kd.R_mono hR6 (fun _ _ => trivial), hb7⟩
    | false =>
      rw [hO, if_neg (by decide)] at h
      obtain ⟨rfl, rfl⟩ : [] = r1 ∧ 5 = r2 := by simpa using h
      clear h
      go_enter Try.func16, Try.ntmps16
      go_wp2_with (first | (go_at_call 30; (with_reducible refine (tree_Check.calls k a0_0 a0_1 A0_2 c0_2 l0_2 0 _ hr1 hc0_2 h1).mono ?_); rintro e w2 ⟨rfl, hb2⟩; have hX2 := (hb2.block _ (by omega)).trans hX1; have hb3 : Below w.heap.size w w2 := hb1.trans (hb2.mono (by omega)); obtain ⟨y20, y21, y22⟩ := box35 hX2; have hl2 := lt_of_block hX2; have hX3 := (Below.heap_alloc w2 (.cells #[.slice none 0 0] 60) _ hl2).trans hX2; obtain ⟨y30, y31, y32⟩ := box35 hX3; have hK3 := step w2 hb3 hX2; have hb4 : Below w.heap.size w (w2.alloc (.cells #[.slice none 0 0] 60)) := hb3.alloc (by omega) _; clear hb2) | (go_at_call 31; refine (tree_calls w w2.heap.size (by omega) 1100 ⟨a0_0, a0_1, l0_2⟩ [] l h2 A0_2 c0_2 _ hc0_2 hr0_2 hb4 hK3).mono ?_; rintro e w5 ⟨rfl, hb5, hK5, hS5⟩; obtain ⟨v5, hc5, hR5⟩ := hK5; obtain ⟨A5, c5, rfl, hlc5, hread5⟩ := Kd.R_reads hR5; have hcc5 := cell_of_one hc5; have hl5 := lt_of_block hc5) | (go_at_call 11; (with_reducible refine (check_calls A5 c5 l _ hread5 hlc5).mono ?_); rintro e w6 ⟨rfl, hb6⟩; rw [hO]; have hR6 := Kd.R_below hR5 hb6; have hcc6 := cell_of_one ((hb6.block _ hl5).trans hc5); have hb7 : Below w.heap.size w w6 := below_then hb5 hb5.size hb6))
      go_ret2
      exact ⟨.slice none 0 0, rfl, Kd.R_nil _ _ _ _ _, hb7⟩
  · rw [if_neg c1] at h
    obtain ⟨rfl, rfl⟩ : [] = r1 ∧ 1 = r2 := by simpa using h
    clear h
    have c2 : (ce != 0) = true := bne_iff_ne.2 c1
    go_enter Try.func16, Try.ntmps16
    go_wp2_with (first | (go_at_call 30; (with_reducible refine (tree_Check.calls k a0_0 a0_1 A0_2 c0_2 l0_2 ce _ hr1 hc0_2 h1).mono ?_); rintro e w2 ⟨rfl, hb2⟩; have hb3 : Below w.heap.size w w2 := hb1.trans (hb2.mono (by omega))))
    go_ret2
    exact ⟨.slice none 0 0, rfl, Kd.R_nil _ _ _ _ _, hb3⟩

end Go.Proofs.Ytekbcfgcojecmaa.P
