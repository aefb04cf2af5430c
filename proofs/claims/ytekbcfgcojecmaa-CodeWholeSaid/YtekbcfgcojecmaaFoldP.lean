import Derived.Test.YtekbcfgcojecmaaFitP
import Derived.Test.YtekbcfgcojecmaaF20
namespace Go.Proofs.Ytekbcfgcojecmaa.P
open Go.RowKit Go.Proofs.YtekbcfgcojecmaaW.PrintWords Go.Proofs.YtekbcfgcojecmaaW.PrintLast Go.Proofs.YtekbcfgcojecmaaW.PrintMore
set_option linter.unusedVariables false
set_option linter.unusedSimpArgs false
/-- A tree that may be: its nodes, and its value for a key, a time and a value. -/
inductive Tr : S35 → Nat → (Int → Int → Int → Int) → Prop
  | number (n : S35) : n.f2 = [] → n.f0 = 1 → 0 ≤ n.f1 → Tr n 1 (fun _ _ _ => n.f1)
  | key (n : S35) : n.f2 = [] → n.f0 = 2 → n.f1 = 0 → Tr n 1 (fun k _ _ => k)
  | time (n : S35) : n.f2 = [] → n.f0 = 3 → n.f1 = 0 → Tr n 1 (fun _ t _ => t)
  | value (n : S35) : n.f2 = [] → n.f0 = 4 → n.f1 = 0 → Tr n 1 (fun _ _ v => v)
  | one (n x : S35) (z : Nat) (a : Int → Int → Int → Int) : n.f2 = [x] → n.f0 = 5 ∨ n.f0 = 6 → n.f1 = 0 → Tr x z a → Tr n (1 + z) (fun k t v => apS n.f0 (a k t v) 0)
  | two (n x y : S35) (z1 z2 : Nat) (a b : Int → Int → Int → Int) : n.f2 = [x, y] → 7 ≤ n.f0 ∧ n.f0 ≤ 21 → n.f1 = 0 → Tr x z1 a → Tr y z2 b → Tr n (1 + z1 + z2) (fun k t v => apS n.f0 (a k t v) (b k t v))
  | if3 (n x y u : S35) (z1 z2 z3 : Nat) (a b c : Int → Int → Int → Int) : n.f2 = [x, y, u] → n.f0 = 22 → n.f1 = 0 → Tr x z1 a → Tr y z2 b → Tr u z3 c → Tr n (1 + z1 + z2 + z3) (fun k t v => if a k t v ≠ 0 then b k t v else c k t v)
theorem Tr.pos {n : S35} {z : Nat} {a : Int → Int → Int → Int} (h : Tr n z a) : 1 ≤ z := by cases h <;> omega
def Trs : List S35 → Nat → Prop
  | [], s => s = 0
  | y :: ys, s => ∃ z a s', Tr y z a ∧ Trs ys s' ∧ s = z + s'
theorem tr_node (op na : Int) (kids : List S35) (s : Nat) (h : Trs kids s) (hl : (kids.length : Int) = (arity op : Int)) (ho : 1 ≤ op ∧ op ≤ 22) (h0 : 0 ≤ na) (hn : op = 1 ∨ na = 0) : ∃ a, Tr ⟨op, na, kids⟩ (1 + s) a := by
  unfold arity at hl
  match kids, h with
  | [], h =>
    have hs : s = 0 := h
    subst hs
    have h4 : op ≤ 4 := by
      split at hl
      · assumption
      · split at hl
        · simp at hl
        · split at hl <;> simp at hl
    have : op = 1 ∨ op = 2 ∨ op = 3 ∨ op = 4 := by omega
    rcases this with rfl | rfl | rfl | rfl
    · exact ⟨_, .number _ rfl rfl h0⟩
    · exact ⟨_, .key _ rfl rfl (by simpa using hn)⟩
    · exact ⟨_, .time _ rfl rfl (by simpa using hn)⟩
    · exact ⟨_, .value _ rfl rfl (by simpa using hn)⟩
  | [x], ⟨z, a, s', hx, hs', e⟩ =>
    have hs : s' = 0 := hs'
    subst hs
    have h5 : op = 5 ∨ op = 6 := by
      split at hl
      · simp at hl
      · split at hl
        · omega
        · split at hl <;> simp at hl
    rw [e]
    exact ⟨_, .one _ x z a rfl h5 (by rcases hn with h | h; omega; exact h) hx⟩
  | [x, y], ⟨z1, a, s', hx, ⟨z2, b, s2, hy, hs2, e2⟩, e⟩ =>
    have hs : s2 = 0 := hs2
    subst hs
    have h5 : 7 ≤ op ∧ op ≤ 21 := by
      split at hl
      · simp at hl
      · split at hl
        · simp at hl
        · split at hl
          · simp at hl
          · omega
    rw [e, e2, show 1 + (z1 + (z2 + 0)) = 1 + z1 + z2 by omega]
    exact ⟨_, .two _ x y z1 z2 a b rfl h5 (by rcases hn with h | h; omega; exact h) hx hy⟩
  | [x, y, u], ⟨z1, a, s', hx, ⟨z2, b, s2, hy, ⟨z3, c, s3, hu, hs3, e3⟩, e2⟩, e⟩ =>
    have hs : s3 = 0 := hs3
    subst hs
    have h5 : op = 22 := by
      split at hl
      · simp at hl
      · split at hl
        · simp at hl
        · split at hl
          · assumption
          · simp at hl
    rw [e, e2, e3, show 1 + (z1 + (z2 + (z3 + 0))) = 1 + z1 + z2 + z3 by omega]
    exact ⟨_, .if3 _ x y u z1 z2 z3 a b c rfl h5 (by rcases hn with h | h; omega; exact h) hx hy hu⟩
  | _ :: _ :: _ :: _ :: _, _ =>
    exfalso
    split at hl
    · simp at hl; omega
    · split at hl
      · simp at hl; omega
      · split at hl <;> (simp at hl; omega)
theorem size_tr : ∀ k : Nat, (∀ op na kids r, headgateref21_Size.f k op na kids = some r → r = 0 ∨ r ≤ 256 ∧ ∃ (z : Nat) (a : Int → Int → Int → Int), r = (z : Int) ∧ Tr ⟨op, na, kids⟩ z a) ∧
    (∀ (x : Int) (i : Nat) (op na : Int) (kids : List S35) (r : Int), 1 ≤ x → x ≤ 256 → i ≤ kids.length → kids.length ≤ 3 → headgateref21_Size.l0 k x (i : Int) op na kids = some r → r = 0 ∨ r ≤ 256 ∧ ∃ s : Nat, Trs (kids.drop i) s ∧ r = x + (s : Int)) ∧
    (∀ b op na kids r, 1 ≤ op → op ≤ 22 → (kids.length : Int) = (arity op : Int) → 0 ≤ na → (b = false → op = 1 ∨ na = 0) → headgateref21_Size.j0 k b op na kids = some r → r = 0 ∨ r ≤ 256 ∧ ∃ (z : Nat) (a : Int → Int → Int → Int), r = (z : Int) ∧ Tr ⟨op, na, kids⟩ z a) := by
  intro k
  induction k with
  | zero =>
    refine ⟨fun _ _ _ _ h => ?_, fun _ _ _ _ _ _ _ _ _ _ h => ?_, fun _ _ _ _ _ _ _ _ _ _ h => ?_⟩
    · rw [headgateref21_Size.f] at h; cases h
    · rw [headgateref21_Size.l0] at h; cases h
    · rw [headgateref21_Size.j0] at h; cases h
  | succ k ih =>
    obtain ⟨ihf, ihl, ihj⟩ := ih
    have bad : ∀ op na kids r, headgateref21_Size.j0 k true op na kids = some r → r = 0 := by
      intro op na kids r h
      cases k with
      | zero => rw [headgateref21_Size.j0] at h; cases h
      | succ k =>
        rw [headgateref21_Size.j0, if_pos rfl] at h
        injection h with h
        omega
    have ar3 : ∀ op, arity op ≤ 3 := fun op => by unfold arity; split; omega; split; omega; split <;> omega
    refine ⟨fun op na kids r h => ?_, fun x i op na kids r hx1 hx2 hi hl h => ?_, fun b op na kids r h1 h2 h3 h4 h5 h => ?_⟩
    · rw [headgateref21_Size.f] at h
      split at h
      · exact .inl (bad _ _ _ _ h)
      · split at h
        · exact .inl (bad _ _ _ _ h)
        · rename_i c1 c2
          rw [rbeneath, Option.bind_some] at h
          split at h
          · rename_i c3
            split at h
            · exact .inl (bad _ _ _ _ h)
            · rename_i c4
              split at h
              · rename_i c5
                refine ihj _ _ _ _ _ (by omega) (by omega) c3 (by omega) (fun q => .inl ?_) h
                simpa using q
              · rename_i c5
                exact ihj _ _ _ _ _ (by omega) (by omega) c3 (by omega) (fun q => .inr (by omega)) h
          · exact .inl (bad _ _ _ _ h)
    · rw [headgateref21_Size.l0] at h
      split at h
      · rename_i c1
        rw [if_pos (by omega)] at h
        obtain ⟨t, ht, h⟩ := Option.bind_eq_some_iff.1 h
        split at h
        · injection h with h; exact .inl h.symm
        · rename_i c2
          have hil : i < kids.length := by omega
          have hrd : rd_T35 kids (i : Int) = kids[i] := by simp [rd_T35, List.getD, List.getElem?_eq_getElem hil]
          rw [hrd] at ht
          rcases ihf _ _ _ _ ht with h0 | ⟨t1, z, a, rfl, hz⟩
          · exact absurd h0 c2
          have hw : wrap64 (x + (z : Int)) = x + (z : Int) := by unfold wrap64; omega
          rw [hw] at h
          split at h
          · injection h with h; exact .inl h.symm
          · rename_i c3
            rw [show wrap64 ((i : Int) + 1) = ((i + 1 : Nat) : Int) by unfold wrap64; omega] at h
            rcases ihl _ (i + 1) _ _ _ _ (by omega) (by omega) (by omega) hl h with h0 | ⟨q1, s, q2, q3⟩
            · exact .inl h0
            refine .inr ⟨q1, z + s, ?_, by rw [q3]; omega⟩
            rw [List.drop_eq_getElem_cons hil]
            refine ⟨z, a, s, ?_, q2, rfl⟩
            revert hz
            generalize kids[i] = y
            intro hz
            cases y
            exact hz
      · rename_i c1
        injection h with h
        subst h
        exact .inr ⟨hx2, 0, by rw [List.drop_of_length_le (by omega)]; rfl, by omega⟩
    · rw [headgateref21_Size.j0] at h
      split at h
      · injection h with h; exact .inl h.symm
      · rename_i c1
        have := ar3 op
        rcases ihl 1 0 _ _ _ _ (by omega) (by omega) (by omega) (by omega) h with h0 | ⟨q1, s, q2, q3⟩
        · exact .inl h0
        obtain ⟨a, ha⟩ := tr_node op na kids s q2 h3 ⟨h1, h2⟩ h4 (h5 (by simpa using c1))
        exact .inr ⟨q1, 1 + s, a, by rw [q3]; omega, ha⟩
/-- A tree's code: its value, and that it fits. -/
theorem tr_of {n : S35} {z : Nat} {a : Int → Int → Int → Int} (h : Tr n z a) (key time v : Int) : ∀ at_, ∃ c, Of apS key time v n at_ c (a key time v) ∧ c.length ≤ 5 * z ∧ 1 ≤ c.length ∧ ∀ b : Int, 0 ≤ b → Fits c at_ b (b + z) := by
  induction h with
  | number n h1 h2 h3 => intro at_; exact ⟨_, .number n at_ h1 h2, by simp, by simp, fun b hb => fits_leaf _ _ (by omega) (.inl h2) _ _ _ hb (by omega)⟩
  | key n h1 h2 h3 => intro at_; exact ⟨_, .key n at_ h1 h2, by simp, by simp, fun b hb => fits_leaf _ _ (by omega) (.inr h3) _ _ _ hb (by omega)⟩
  | time n h1 h2 h3 => intro at_; exact ⟨_, .time n at_ h1 h2, by simp, by simp, fun b hb => fits_leaf _ _ (by omega) (.inr h3) _ _ _ hb (by omega)⟩
  | value n h1 h2 h3 => intro at_; exact ⟨_, .value n at_ h1 h2, by simp, by simp, fun b hb => fits_leaf _ _ (by omega) (.inr h3) _ _ _ hb (by omega)⟩
  | one n x z a h1 h2 h3 _ ih =>
    intro at_
    obtain ⟨c, o, l1, l2, f⟩ := ih at_
    exact ⟨_, .one n x at_ c _ h1 h2 o, by simp; omega, by simp, fun b hb => fits_one h2 (f b hb) hb (by omega) (by omega)⟩
  | two n x y z1 z2 a a2 h1 h2 h3 hx hy ih1 ih2 =>
    intro at_
    have p1 := hx.pos
    have p2 := hy.pos
    obtain ⟨c, o, l1, l2, f⟩ := ih1 at_
    by_cases c18 : n.f0 = 18
    · obtain ⟨d, o2, k1, k2, f2⟩ := ih2 (at_ + c.length + 1)
      simp only [c18]
      exact ⟨_, .and2 n x y at_ c d _ _ h1 c18 o o2, by simp; omega, by simp; omega, fun b hb => fits_and (f b hb) (f2 b hb) hb (by omega) (by omega) (by omega)⟩
    · by_cases c19 : n.f0 = 19
      · obtain ⟨d, o2, k1, k2, f2⟩ := ih2 (at_ + c.length + 3)
        simp only [c19]
        exact ⟨_, .or2 n x y at_ c d _ _ h1 c19 o o2, by simp; omega, by simp; omega, fun b hb => fits_or (f b hb) (f2 b hb) hb (by omega) (by omega) (by omega)⟩
      · obtain ⟨d, o2, k1, k2, f2⟩ := ih2 (at_ + c.length)
        have hop : 7 ≤ n.f0 ∧ n.f0 ≤ 17 ∨ n.f0 = 20 ∨ n.f0 = 21 := by omega
        exact ⟨_, .two n x y at_ c d _ _ h1 hop o o2, by simp; omega, by simp; omega, fun b hb => fits_two hop (f b hb) (f2 (b + 1) (by omega)) hb (by omega) (by omega) (by omega)⟩
  | if3 n x y u z1 z2 z3 a a2 a3 h1 h2 h3 hx hy hu ih1 ih2 ih3 =>
    intro at_
    obtain ⟨c, o, l1, l2, f⟩ := ih1 at_
    obtain ⟨d, o2, k1, k2, f2⟩ := ih2 (at_ + c.length + 1)
    obtain ⟨e, o3, j1, j2, f3⟩ := ih3 (at_ + c.length + d.length + 2)
    exact ⟨_, .if3 n x y u at_ c d e _ _ _ h1 h2 o o2 o3, by simp; omega, by simp; omega, fun b hb => fits_if (f b hb) (f2 b hb) (f3 b hb) hb (by omega) (by omega) (by omega) (by omega)⟩
theorem rapply2 (op a b : Int) : headgateref21_Apply.f op a b = some (apS op a b) := rfl
/-- The document's value of a tree. -/
theorem tr_val {n : S35} {z : Nat} {a : Int → Int → Int → Int} (h : Tr n z a) (key time v : Int) : Ev (fun k => headgateref21_Value.f k n.f0 n.f1 n.f2 key time v) (a key time v) := by
  induction h with
  | number n h1 h2 h3 =>
    refine Ev.step (fun k => by rw [headgateref21_Value.f]) ?_
    simp only [if_pos h2]
    exact Ev.now _
  | key n h1 h2 h3 =>
    refine Ev.step (fun k => by rw [headgateref21_Value.f]) ?_
    simp only [if_neg (show ¬ n.f0 = 1 by omega), if_pos h2]
    exact Ev.now _
  | time n h1 h2 h3 =>
    refine Ev.step (fun k => by rw [headgateref21_Value.f]) ?_
    simp only [if_neg (show ¬ n.f0 = 1 by omega), if_neg (show ¬ n.f0 = 2 by omega), if_pos h2]
    exact Ev.now _
  | value n h1 h2 h3 =>
    refine Ev.step (fun k => by rw [headgateref21_Value.f]) ?_
    simp only [if_neg (show ¬ n.f0 = 1 by omega), if_neg (show ¬ n.f0 = 2 by omega), if_neg (show ¬ n.f0 = 3 by omega), if_pos h2]
    exact Ev.now _
  | one n x z a h1 h2 h3 _ ih =>
    rw [h1]
    have hl : (([x] : List S35).length : Int) = 1 := rfl
    refine Ev.step (fun k => by rw [headgateref21_Value.f]) ?_
    simp only [hl, if_neg (show ¬ n.f0 = 1 by omega), if_neg (show ¬ n.f0 = 2 by omega), if_neg (show ¬ n.f0 = 3 by omega), if_neg (show ¬ n.f0 = 4 by omega), if_neg (show ¬ n.f0 = 22 by omega), if_pos (show (0 : Int) < 1 by decide), if_pos (show (1 : Int) = 1 from rfl), show rd_T35 [x] 0 = x from rfl]
    refine Ev.bind ih ?_
    simp only [rapply2, Option.bind_some]
    exact Ev.now _
  | two n x y z1 z2 a a2 h1 h2 h3 _ _ ih1 ih2 =>
    rw [h1]
    have hl : (([x, y] : List S35).length : Int) = 2 := rfl
    refine Ev.step (fun k => by rw [headgateref21_Value.f]) ?_
    simp only [hl, if_neg (show ¬ n.f0 = 1 by omega), if_neg (show ¬ n.f0 = 2 by omega), if_neg (show ¬ n.f0 = 3 by omega), if_neg (show ¬ n.f0 = 4 by omega), if_neg (show ¬ n.f0 = 22 by omega), if_pos (show (0 : Int) < 2 by decide), if_pos (show (1 : Int) < 2 by decide), if_neg (show ¬ (2 : Int) = 1 by decide), show rd_T35 [x, y] 0 = x from rfl, show rd_T35 [x, y] 1 = y from rfl]
    refine Ev.bind ih1 ?_
    refine Ev.bind ih2 ?_
    simp only [rapply2, Option.bind_some]
    exact Ev.now _
  | if3 n x y u z1 z2 z3 a a2 a3 h1 h2 h3 _ _ _ ih1 ih2 ih3 =>
    rw [h1]
    have hl : (([x, y, u] : List S35).length : Int) = 3 := rfl
    refine Ev.step (fun k => by rw [headgateref21_Value.f]) ?_
    simp only [hl, if_neg (show ¬ n.f0 = 1 by omega), if_neg (show ¬ n.f0 = 2 by omega), if_neg (show ¬ n.f0 = 3 by omega), if_neg (show ¬ n.f0 = 4 by omega), if_pos h2, if_pos (show (0 : Int) < 3 by decide), if_pos (show (1 : Int) < 3 by decide), if_pos (show (2 : Int) < 3 by decide), show rd_T35 [x, y, u] 0 = x from rfl, show rd_T35 [x, y, u] 1 = y from rfl, show rd_T35 [x, y, u] 2 = u from rfl]
    refine Ev.bind ih1 ?_
    by_cases c0 : a key time v = 0
    · simp only [if_pos c0, if_neg (show ¬ a key time v ≠ 0 from fun q => q c0)]
      refine Ev.bind ih3 ?_
      exact Ev.now _
    · simp only [if_neg c0, if_pos (show a key time v ≠ 0 from c0)]
      refine Ev.bind ih2 ?_
      exact Ev.now _
/-- The document's size of a tree that may be. -/
theorem size_l0 (op na : Int) (kids : List S35) (hl : kids.length ≤ 3) : ∀ (ys : List (S35 × Nat)) (pre : List S35) (x : Nat), kids = pre ++ ys.map Prod.fst → (∀ p ∈ ys, 1 ≤ p.2 ∧ Ev (fun k => headgateref21_Size.f k p.1.f0 p.1.f1 p.1.f2) (p.2 : Int)) → 1 ≤ x → x + (ys.map Prod.snd).sum ≤ 256 →
    Ev (fun k => headgateref21_Size.l0 k (x : Int) (pre.length : Int) op na kids) ((x + (ys.map Prod.snd).sum : Nat) : Int) := by
  intro ys
  induction ys with
  | nil =>
    intro pre x hk _ hx _
    have hpl : kids.length = pre.length := by rw [hk]; simp
    refine Ev.step (fun k => by rw [headgateref21_Size.l0]) ?_
    simp only [if_neg (show ¬ (pre.length : Int) < (kids.length : Int) by omega)]
    exact Ev.now _
  | cons y ys ih =>
    intro pre x hk hys hx hs
    have hpl : pre.length < kids.length := by rw [hk]; simp
    have hy : rd_T35 kids (pre.length : Int) = y.1 := by rw [hk]; unfold rd_T35; simp [List.getD_eq_getElem?_getD]
    obtain ⟨y1, y2⟩ := hys y (by simp)
    simp only [List.map_cons, List.sum_cons] at hs
    have h := ih (pre ++ [y.1]) (x + y.2) (by rw [hk]; simp) (fun p hp => hys p (by simp [hp])) (by omega) (by omega)
    refine Ev.step (fun k => by rw [headgateref21_Size.l0]) ?_
    simp only [if_pos (show (pre.length : Int) < (kids.length : Int) by omega), if_pos (show (0 : Int) ≤ (pre.length : Int) by omega), hy]
    refine Ev.bind y2 ?_
    simp only [if_neg (show ¬ (y.2 : Int) = 0 by omega), show wrap64 ((x : Int) + (y.2 : Int)) = ((x + y.2 : Nat) : Int) by unfold wrap64; omega, if_neg (show ¬ ((x + y.2 : Nat) : Int) > 256 by omega), show wrap64 ((pre.length : Int) + 1) = (((pre ++ [y.1]).length : Nat) : Int) by simp; unfold wrap64; omega]
    rw [List.map_cons, List.sum_cons, ← Nat.add_assoc]
    exact h
theorem size_node (op na : Int) (ys : List (S35 × Nat)) (h1 : 1 ≤ op ∧ op ≤ 22) (h2 : ys.length = arity op) (h3 : 0 ≤ na) (h4 : op = 1 ∨ na = 0) (h5 : ∀ p ∈ ys, 1 ≤ p.2 ∧ Ev (fun k => headgateref21_Size.f k p.1.f0 p.1.f1 p.1.f2) (p.2 : Int)) (h6 : 1 + (ys.map Prod.snd).sum ≤ 256) :
    Ev (fun k => headgateref21_Size.f k op na (ys.map Prod.fst)) ((1 + (ys.map Prod.snd).sum : Nat) : Int) := by
  have ar3 : arity op ≤ 3 := by unfold arity; split; omega; split; omega; split <;> omega
  have hl := size_l0 op na (ys.map Prod.fst) (by simp; omega) ys [] 1 (by simp) h5 (by omega) h6
  have hj : Ev (fun k => headgateref21_Size.j0 k false op na (ys.map Prod.fst)) ((1 + (ys.map Prod.snd).sum : Nat) : Int) := by
    refine Ev.step (fun k => by rw [headgateref21_Size.j0]) ?_
    simp only [Bool.false_eq_true, if_false]
    exact hl
  refine Ev.step (fun k => by rw [headgateref21_Size.f]) ?_
  simp only [if_neg (show ¬ op < 1 by omega), if_neg (show ¬ op > 22 by omega), rbeneath, Option.bind_some, List.length_map, if_pos (show (ys.length : Int) = (arity op : Int) by omega), if_neg (show ¬ na < 0 by omega)]
  split
  · rename_i c
    rw [show (op != 1) = false by rcases h4 with h | h; rw [h]; rfl; omega]
    exact hj
  · exact hj
theorem tr_size {n : S35} {z : Nat} {a : Int → Int → Int → Int} (h : Tr n z a) : z ≤ 256 → Ev (fun k => headgateref21_Size.f k n.f0 n.f1 n.f2) (z : Int) := by
  induction h with
  | number n h1 h2 h3 => intro hz; rw [h1]; exact size_node n.f0 n.f1 [] (by omega) (by rw [h2]; rfl) h3 (.inl h2) (by simp) (by simp)
  | key n h1 h2 h3 => intro hz; rw [h1]; exact size_node n.f0 n.f1 [] (by omega) (by rw [h2]; rfl) (by omega) (.inr h3) (by simp) (by simp)
  | time n h1 h2 h3 => intro hz; rw [h1]; exact size_node n.f0 n.f1 [] (by omega) (by rw [h2]; rfl) (by omega) (.inr h3) (by simp) (by simp)
  | value n h1 h2 h3 => intro hz; rw [h1]; exact size_node n.f0 n.f1 [] (by omega) (by rw [h2]; rfl) (by omega) (.inr h3) (by simp) (by simp)
  | one n x z a h1 h2 h3 hx ih =>
    intro hz
    have p1 := hx.pos
    rw [h1]
    exact size_node n.f0 n.f1 [(x, z)] (by omega) (by rcases h2 with h | h <;> rw [h] <;> rfl) (by omega) (.inr h3) (by simp; exact ⟨p1, ih (by omega)⟩) (by simp; omega)
  | two n x y z1 z2 a a2 h1 h2 h3 hx hy ih1 ih2 =>
    intro hz
    have p1 := hx.pos
    have p2 := hy.pos
    rw [h1]
    have h := size_node n.f0 n.f1 [(x, z1), (y, z2)] (by omega) (by unfold arity; rw [if_neg (by omega), if_neg (by omega), if_neg (by omega)]; rfl) (by omega) (.inr h3) (by simp; exact ⟨⟨p1, ih1 (by omega)⟩, ⟨p2, ih2 (by omega)⟩⟩) (by simp; omega)
    simpa [Nat.add_assoc] using h
  | if3 n x y u z1 z2 z3 a a2 a3 h1 h2 h3 hx hy hu ih1 ih2 ih3 =>
    intro hz
    have p1 := hx.pos
    have p2 := hy.pos
    have p3 := hu.pos
    rw [h1]
    have h := size_node n.f0 n.f1 [(x, z1), (y, z2), (u, z3)] (by omega) (by rw [h2]; rfl) (by omega) (.inr h3) (by simp; exact ⟨⟨p1, ih1 (by omega)⟩, ⟨p2, ih2 (by omega)⟩, ⟨p3, ih3 (by omega)⟩⟩) (by simp; omega)
    simpa [Nat.add_assoc] using h
end Go.Proofs.Ytekbcfgcojecmaa.P
