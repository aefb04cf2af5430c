/- Any code may be, or may not, as the document says: the walk of the law, out of the two plain laws. No condition. -/
import Derived.Test.YtekbcfgcojecmaaF11
import Derived.Test.YtekbcfgcojecmaaF12
import Derived.Test.YtekbcfgcojecmaaF13
import Derived.Test.YtekbcfgcojecmaaF14
namespace Go.Proofs.Ytekbcfgcojecmaa.P
open Go.RowKit Go.Proofs.YtekbcfgcojecmaaW.PrintWords Go.Proofs.YtekbcfgcojecmaaW.PrintLast Go.Proofs.YtekbcfgcojecmaaW.PrintMore
set_option linter.unusedVariables false
set_option linter.unusedSimpArgs false
theorem rtakes_f (op n : Int) : headgateref22_takes.f 3 op n = some (if (eff op n).2.2 = true then (eff op n).1 else -1) := by
  unfold headgateref22_takes.f eff
  simp only [headgateref22_takes.j0, headgateref22_takes.j1]
  grind (splits := 40)
theorem rtakes (op n : Int) : Ev (fun k => headgateref22_takes.f k op n) (if (eff op n).2.2 = true then (eff op n).1 else -1) := Ev.of (headgateref22_takes.mono op n) (rtakes_f op n)
theorem rjumps (op n : Int) : headgateref22_jumps.f op n = some (jmp ⟨op, n⟩) := by
  unfold headgateref22_jumps.f jmp
  by_cases h : op = 30
  · rw [if_pos h, h]; rfl
  · rw [if_neg h]; simp [h]
theorem rputs (op n : Int) (h : (eff op n).2.2 = true) : headgateref22_puts.f op n = some (eff op n).2.1 := by
  unfold headgateref22_puts.f
  rcases eff_cases h with ⟨c, e⟩ | ⟨c, e⟩ | ⟨c, e⟩ | ⟨c, e⟩ | ⟨c, e⟩
  · rw [e, if_neg (by omega), if_neg (by omega)]
  · rw [e, if_neg (by omega), if_neg (by omega)]
  · rw [e, if_neg (by omega), if_neg (by omega)]
  · rw [e, if_pos c]
  · rw [e, if_neg (by omega), if_pos c]
theorem wid {x : Int} (h0 : -9223372036854775808 ≤ x) (h1 : x ≤ 9223372036854775807) : wrap64 x = x := by unfold wrap64; omega
theorem set_same (h : List Int) (p : Nat) (n : Int) (hp : p < h.length) (e : rd h (p : Int) = n) : h.set p n = h := by
  apply List.ext_getElem?
  intro j
  rw [List.getElem?_set]
  by_cases c : p = j
  · subst c
    rw [if_pos rfl, if_pos hp, ← e]
    unfold rd
    simp [List.getD_eq_getElem?_getD, hp]
  · rw [if_neg c]
theorem l3_one (k : Nat) (l : List S54) (h : List Int) (i : Int) (n : Int) (x8 : List Int) (x9 p : Nat) (hx : x9 < x8.length) (hr : rd x8 (x9 : Int) = (p : Int)) (hp : p < h.length) (hn : n ≤ 64) (hn0 : 0 ≤ n) :
    headgateref22_May.l3 (k + 1) l h i n x8 (x9 : Int) = if rd (noteH h p n) (p : Int) = n then headgateref22_May.l3 k l (noteH h p n) i n x8 (wrap64 ((x9 : Int) + 1)) else some false := by
  rw [headgateref22_May.l3]
  rw [if_pos (by omega), if_neg (by omega), if_pos (by omega), hr, if_pos (by omega), if_pos (by omega)]
  simp only [Int.toNat_natCast]
  by_cases c : rd h (p : Int) < 0
  · have e : rd (noteH h p n) (p : Int) = n := by rw [rd_noteH h p n hp p, if_pos ⟨rfl, c⟩]
    rw [if_neg (show ¬ rd h (p : Int) ≥ 0 by omega), if_pos e]
    unfold noteH
    rw [if_pos c]
  · have e : rd (noteH h p n) (p : Int) = rd h (p : Int) := by rw [rd_noteH h p n hp p, if_neg (fun q => c q.2)]
    rw [if_pos (show rd h (p : Int) ≥ 0 by omega), e]
    unfold noteH
    rw [if_neg c]
    by_cases e : rd h (p : Int) = n
    · rw [if_pos e, if_pos e, set_same h p n hp e]
    · rw [if_neg e, if_neg e]
theorem l3_end (k : Nat) (l : List S54) (h : List Int) (i : Int) (n : Int) (x8 : List Int) : headgateref22_May.l3 (k + 1) l h i n x8 (x8.length : Int) = headgateref22_May.l2 k l h (wrap64 (i + 1)) := by
  rw [headgateref22_May.l3, if_neg (by omega)]
theorem may_l2 (l : List S54) (hok : ∀ j, j < l.length → okAt l j = true) (hll : l.length ≤ 1024) : ∀ (m i : Nat) (h : List Int), i + m = l.length → HInv l i h → Ev (fun k => headgateref22_May.l2 k l h (i : Int)) (endOk l (hAll l m i h)) := by
  intro m
  induction m with
  | zero =>
    intro i h hi hI
    have hlen := hI.len
    refine Ev.step (fun k => by rw [headgateref22_May.l2]) ?_
    simp only [if_neg (show ¬ (i : Int) < (l.length : Int) by omega), if_pos (show (0 : Int) ≤ (l.length : Int) by omega), if_pos (show (l.length : Int) < (h.length : Int) by omega)]
    exact Ev.now _
  | succ m ih =>
    intro i h hi hI
    have hlen := hI.len
    have hoki := hok i (by omega)
    have hv : (eff (rd_T54 l (i : Int)).f0 (rd_T54 l (i : Int)).f1).2.2 = true := by
      simp only [okAt, Bool.and_eq_true] at hoki
      exact hoki.1
    have hjn := okAt_jump hoki
    have hb := eff_bounds (rd_T54 l (i : Int)).f0 (rd_T54 l (i : Int)).f1
    have hhi := hI.high i
    have hinv : ∀ h', hStep l i h = some h' → HInv l (i + 1) h' := fun h' e => hStep_inv (by omega) hok hI e
    have ew : wrap64 ((i : Int) + 1) = ((i + 1 : Nat) : Int) := by rw [wid (by omega) (by omega)]; omega
    refine Ev.step (fun k => by rw [headgateref22_May.l2]) ?_
    simp only [if_pos (show (i : Int) < (l.length : Int) by omega), if_pos (show (0 : Int) ≤ (i : Int) by omega), if_pos (show (i : Int) < (h.length : Int) by omega)]
    simp only [hAll]
    revert hinv
    unfold hStep
    simp only
    intro hinv
    by_cases c0 : rd h (i : Int) < 0
    · simp only [if_pos c0]
      rw [ew]
      simp only [if_pos c0] at hinv
      exact ih (i + 1) h (by omega) (hinv h rfl)
    · simp only [if_neg c0] at hinv ⊢
      refine Ev.bind (rtakes _ _) ?_
      simp only [if_pos hv]
      by_cases c1 : rd h (i : Int) < (eff (rd_T54 l (i : Int)).f0 (rd_T54 l (i : Int)).f1).1
      · simp only [if_pos c1, if_pos (Or.inl c1)]
        exact Ev.now _
      · simp only [if_neg c1]
        refine Ev.bind (rtakes _ _) ?_
        simp only [if_pos hv, rputs _ _ hv, rjumps, Option.bind_some]
        have hn : wrap64 (wrap64 (rd h (i : Int) - (eff (rd_T54 l (i : Int)).f0 (rd_T54 l (i : Int)).f1).1) + (eff (rd_T54 l (i : Int)).f0 (rd_T54 l (i : Int)).f1).2.1) = rd h (i : Int) - (eff (rd_T54 l (i : Int)).f0 (rd_T54 l (i : Int)).f1).1 + (eff (rd_T54 l (i : Int)).f0 (rd_T54 l (i : Int)).f1).2.1 := by
          unfold wrap64; omega
        have hn0 : 0 ≤ wrap64 (wrap64 (rd h (i : Int) - (eff (rd_T54 l (i : Int)).f0 (rd_T54 l (i : Int)).f1).1) + (eff (rd_T54 l (i : Int)).f0 (rd_T54 l (i : Int)).f1).2.1) := by rw [hn]; omega
        clear hn
        revert hn0 hinv
        generalize wrap64 (wrap64 (rd h (i : Int) - (eff (rd_T54 l (i : Int)).f0 (rd_T54 l (i : Int)).f1).1) + (eff (rd_T54 l (i : Int)).f0 (rd_T54 l (i : Int)).f1).2.1) = n
        intro hinv hn0
        have last : ∀ (h1 : List Int) (x8 : List Int) (x9 : Nat), h1.length = l.length + 1 → x9 ≤ 1 → x9 < x8.length → x8.length = x9 + 1 → rd x8 (x9 : Int) = ((i + 1 : Nat) : Int) → n ≤ 64 → (∀ h2, h2 = noteH h1 (i + 1) n → rd h2 ((i : Int) + 1) = n → HInv l (i + 1) h2) →
            Ev (fun k => headgateref22_May.l3 k l h1 (i : Int) n x8 (x9 : Int)) (endOk l ((if (rd (noteH h1 (i + 1) n) ((i : Int) + 1) != n) = true then none else some (noteH h1 (i + 1) n)).bind (hAll l m (i + 1)))) := by
          intro h1 x8 x9 hl1 hx9 hx hx8 hr hn64 hI2
          refine Ev.step (fun k => by rw [l3_one k l h1 i n x8 x9 (i + 1) hx hr (by omega) hn64 hn0]) ?_
          by_cases c4 : rd (noteH h1 (i + 1) n) ((i + 1 : Nat) : Int) = n
          · simp only [if_pos c4]
            have c4' : rd (noteH h1 (i + 1) n) ((i : Int) + 1) = n := c4
            rw [if_neg (by simp [c4'])]
            rw [show wrap64 ((x9 : Int) + 1) = (x8.length : Int) by rw [wid (by omega) (by omega)]; omega]
            refine Ev.step (fun k => by rw [l3_end]) ?_
            rw [ew]
            exact ih (i + 1) _ (by omega) (hI2 _ rfl c4')
          · simp only [if_neg c4]
            have c4' : ¬ rd (noteH h1 (i + 1) n) ((i : Int) + 1) = n := c4
            rw [if_pos (by simp [c4'])]
            exact Ev.now _
        cases hj : jmp (rd_T54 l (i : Int)) with
        | false =>
          have hj' : jmp ⟨(rd_T54 l (i : Int)).f0, (rd_T54 l (i : Int)).f1⟩ = false := hj
          simp only [hj', hj, Bool.false_eq_true, if_false, Bool.false_and] at hinv ⊢
          have h30 : ¬ (rd_T54 l (i : Int)).f0 = 30 := by
            intro e
            unfold jmp at hj
            rw [e] at hj
            exact absurd hj (by decide)
          simp only [if_neg h30] at hinv ⊢
          refine Ev.step (fun k => by rw [headgateref22_May.j4]) ?_
          simp only [if_pos (show (0 : Int) ≤ (i : Int) by omega), if_pos (show (i : Int) < (l.length : Int) by omega), if_neg h30, List.length_nil, if_pos (show 0 < 17592186044416 by omega), List.nil_append]
          refine Ev.step (fun k => by rw [headgateref22_May.j5]) ?_
          by_cases c2 : n > 64
          · rw [if_pos (Or.inr c2)]
            refine Ev.step (fun k => by rw [headgateref22_May.l3]) ?_
            simp only [List.length_singleton, if_pos (show (0 : Int) < ((1 : Nat) : Int) by omega), if_pos c2]
            exact Ev.now _
          · rw [if_neg (fun q => q.elim c1 c2)]
            rw [if_neg (fun q => q.elim c1 c2)] at hinv
            exact last h _ 0 hlen (by omega) (by simp) (by simp) (by rw [ew]; rfl) (by omega) (fun h2 e c => hinv h2 (by rw [← e, if_neg (by simp [c])]))
        | true =>
          have hj' : jmp ⟨(rd_T54 l (i : Int)).f0, (rd_T54 l (i : Int)).f1⟩ = true := hj
          have hN := hjn hj
          obtain ⟨N, hNe⟩ : ∃ N : Nat, (rd_T54 l (i : Int)).f1 = (N : Int) := ⟨(rd_T54 l (i : Int)).f1.toNat, by omega⟩
          simp only [hj', hj, if_true, Bool.true_and] at hinv ⊢
          simp only [List.length_nil, if_pos (show 0 < 17592186044416 by omega), List.nil_append]
          simp only [hNe, Int.toNat_natCast] at hinv hN ⊢
          rw [hNe] at c1
          refine Ev.step (fun k => by rw [headgateref22_May.j4]) ?_
          simp only [if_pos (show (0 : Int) ≤ (i : Int) by omega), if_pos (show (i : Int) < (l.length : Int) by omega)]
          by_cases h30 : (rd_T54 l (i : Int)).f0 = 30
          · simp only [if_pos h30] at hinv ⊢
            refine Ev.step (fun k => by rw [headgateref22_May.j5]) ?_
            by_cases c2 : n > 64
            · rw [if_pos (Or.inr c2)]
              refine Ev.step (fun k => by rw [headgateref22_May.l3]) ?_
              simp only [List.length_singleton, if_pos (show (0 : Int) < ((1 : Nat) : Int) by omega), if_pos c2]
              exact Ev.now _
            · rw [if_neg (by omega)]
              rw [if_neg (fun q => q.elim c1 c2)] at hinv
              refine Ev.step (fun k => by rw [show (0 : Int) = ((0 : Nat) : Int) from rfl, l3_one k l h i n [(N : Int)] 0 N (by simp) rfl (by omega) (by omega) hn0]) ?_
              by_cases c3 : rd (noteH h N n) (N : Int) = n
              · simp only [if_pos c3]
                rw [if_neg (by simp [c3])] at hinv ⊢
                rw [show wrap64 (((0 : Nat) : Int) + 1) = (([(N : Int)] : List Int).length : Int) by rw [wid (by omega) (by omega)]; simp]
                refine Ev.step (fun k => by rw [l3_end]) ?_
                rw [ew]
                exact ih (i + 1) _ (by omega) (hinv _ rfl)
              · simp only [if_neg c3]
                rw [if_pos (by simp [c3])]
                exact Ev.now _
          · simp only [if_neg h30] at hinv ⊢
            simp only [List.length_singleton, if_pos (show 1 < 17592186044416 by omega)]
            refine Ev.step (fun k => by rw [headgateref22_May.j5]) ?_
            by_cases c2 : n > 64
            · rw [if_pos (Or.inr c2)]
              refine Ev.step (fun k => by rw [headgateref22_May.l3]) ?_
              simp only [List.length_append, List.length_singleton, if_pos (show (0 : Int) < ((1 + 1 : Nat) : Int) by omega), if_pos c2]
              exact Ev.now _
            · rw [if_neg (by omega)]
              rw [if_neg (fun q => q.elim c1 c2)] at hinv
              refine Ev.step (fun k => by rw [show (0 : Int) = ((0 : Nat) : Int) from rfl, l3_one k l h i n ([(N : Int)] ++ [wrap64 ((i : Int) + 1)]) 0 N (by simp) rfl (by omega) (by omega) hn0]) ?_
              by_cases c3 : rd (noteH h N n) (N : Int) = n
              · simp only [if_pos c3]
                rw [if_neg (by simp [c3])] at hinv ⊢
                rw [show wrap64 (((0 : Nat) : Int) + 1) = ((1 : Nat) : Int) by rw [wid (by omega) (by omega)]; rfl]
                exact last _ _ 1 (by rw [length_noteH]; exact hlen) (by omega) (by simp) (by simp) (by rw [ew]; rfl) (by omega) (fun h2 e c => hinv h2 (by rw [← e, if_neg (by simp [c])]))
              · simp only [if_neg c3]
                rw [if_pos (by simp [c3])]
                exact Ev.now _
theorem may_l1 (l : List S54) (hok : ∀ j, j < l.length → okAt l j = true) (hll : l.length ≤ 1024) : ∀ (m i : Nat), i + m = l.length + 1 → Ev (fun k => headgateref22_May.l1 k l (List.replicate i (-1)) (i : Int)) (endOk l (hAll l l.length 0 (0 :: List.replicate l.length (-1)))) := by
  intro m
  induction m with
  | zero =>
    intro i hi
    refine Ev.step (fun k => by rw [headgateref22_May.l1]) ?_
    simp only [if_neg (show ¬ (i : Int) ≤ (l.length : Int) by omega), List.length_replicate, if_pos (show (0 : Int) < (i : Int) by omega)]
    obtain rfl : i = l.length + 1 := by omega
    rw [show (List.replicate (l.length + 1) (-1 : Int)).set (0 : Int).toNat 0 = 0 :: List.replicate l.length (-1) from rfl]
    exact may_l2 l hok hll l.length 0 _ (by omega) (inv_start l)
  | succ m ih =>
    intro i hi
    refine Ev.step (fun k => by rw [headgateref22_May.l1]) ?_
    simp only [if_pos (show (i : Int) ≤ (l.length : Int) by omega), List.length_replicate, if_pos (show i < 17592186044416 by omega)]
    rw [show wrap64 ((i : Int) + 1) = ((i + 1 : Nat) : Int) by rw [wid (by omega) (by omega)]; omega, ← List.replicate_succ']
    exact ih (i + 1) (by omega)
theorem may_l0 (l : List S54) (hll : l.length ≤ 1024) : ∀ (m i : Nat), i + m = l.length → (∀ j, j < i → okAt l j = true) → Ev (fun k => headgateref22_May.l0 k l (i : Int)) (okFrom l m i && endOk l (hAll l l.length 0 (0 :: List.replicate l.length (-1)))) := by
  intro m
  induction m with
  | zero =>
    intro i hi hok
    refine Ev.step (fun k => by rw [headgateref22_May.l0]) ?_
    simp only [if_neg (show ¬ (i : Int) < (l.length : Int) by omega), okFrom, Bool.true_and]
    exact may_l1 l (fun j hj => hok j (by omega)) hll (l.length + 1) 0 (by omega)
  | succ m ih =>
    intro i hi hok
    refine Ev.step (fun k => by rw [headgateref22_May.l0]) ?_
    simp only [if_pos (show (i : Int) < (l.length : Int) by omega), if_pos (show (0 : Int) ≤ (i : Int) by omega)]
    refine Ev.bind (rtakes _ _) ?_
    have hb := eff_bounds (rd_T54 l (i : Int)).f0 (rd_T54 l (i : Int)).f1
    have ew : wrap64 ((i : Int) + 1) = ((i + 1 : Nat) : Int) := by rw [wid (by omega) (by omega)]; omega
    have ho : okAt l i = ((eff (rd_T54 l (i : Int)).f0 (rd_T54 l (i : Int)).f1).2.2 && !(jmp (rd_T54 l (i : Int)) && (decide ((rd_T54 l (i : Int)).f1 ≤ (i : Int)) || decide ((rd_T54 l (i : Int)).f1 > (l.length : Int))))) := rfl
    have go : okAt l i = true → Ev (fun k => headgateref22_May.l0 k l (wrap64 ((i : Int) + 1))) (okFrom l (m + 1) i && endOk l (hAll l l.length 0 (0 :: List.replicate l.length (-1)))) := fun h => by
      rw [ew, okFrom, h, Bool.true_and]
      exact ih (i + 1) (by omega) (fun j hj => by
        by_cases e : j = i
        · subst e; exact h
        · exact hok j (by omega))
    have stop : okAt l i = false → Ev (fun _ : Nat => some false) (okFrom l (m + 1) i && endOk l (hAll l l.length 0 (0 :: List.replicate l.length (-1)))) := fun h => by
      rw [okFrom, h, Bool.false_and, Bool.false_and]
      exact Ev.now _
    cases hv : (eff (rd_T54 l (i : Int)).f0 (rd_T54 l (i : Int)).f1).2.2 with
    | false =>
      simp only [Bool.false_eq_true, if_false, if_pos (show (-1 : Int) < 0 by omega)]
      exact stop (by rw [ho, hv]; rfl)
    | true =>
      simp only [if_true, if_neg (show ¬ (eff (rd_T54 l (i : Int)).f0 (rd_T54 l (i : Int)).f1).1 < 0 by omega), rjumps, Option.bind_some]
      rw [hv, Bool.true_and] at ho
      have hje : jmp ⟨(rd_T54 l (i : Int)).f0, (rd_T54 l (i : Int)).f1⟩ = jmp (rd_T54 l (i : Int)) := rfl
      simp only [hje]
      cases hj : jmp (rd_T54 l (i : Int)) with
      | false =>
        simp only [Bool.false_eq_true, if_false]
        exact go (by rw [ho, hj]; rfl)
      | true =>
        simp only [if_true]
        by_cases c1 : (rd_T54 l (i : Int)).f1 ≤ (i : Int)
        · simp only [if_pos c1]
          exact stop (by rw [ho, hj]; simp [c1])
        · simp only [if_neg c1]
          by_cases c2 : (rd_T54 l (i : Int)).f1 > (l.length : Int)
          · simp only [if_pos c2]
            exact stop (by rw [ho, hj]; simp [c2])
          · simp only [if_neg c2]
            exact go (by rw [ho, hj]; simp [c1]; omega)
/-- The document's May tells what heights tells. -/
theorem may_ev (l : List S54) : Ev (fun k => headgateref22_May.f k l) (hOk l) := by
  unfold headgateref22_May.f hOk
  by_cases c0 : l.length = 0
  · simp only [if_pos (show (l.length : Int) = 0 by omega), if_pos (Or.inl c0)]
    refine Ev.step (fun k => by rw [headgateref22_May.j0]) ?_
    simp only [if_true]
    exact Ev.now _
  · simp only [if_neg (show ¬ (l.length : Int) = 0 by omega)]
    by_cases c1 : l.length > 1024
    · simp only [if_pos (Or.inr c1)]
      refine Ev.step (fun k => by rw [headgateref22_May.j0]) ?_
      simp only [decide_eq_true (show (l.length : Int) > 1024 by omega), if_true]
      exact Ev.now _
    · simp only [if_neg (show ¬ (l.length = 0 ∨ l.length > 1024) by omega)]
      refine Ev.step (fun k => by rw [headgateref22_May.j0]) ?_
      simp only [decide_eq_false (show ¬ (l.length : Int) > 1024 by omega), Bool.false_eq_true, if_false]
      rw [hRun_eq]
      exact may_l0 l (by omega) l.length 0 (by omega) (fun j hj => by omega)
theorem few_calls (A : Option Addr) (c : Nat) (l : List S54) (w : World) (hc : l.length ≤ c) (hA : 300 < l.length → ∃ ad, A = some ad) :
    Calls Try.prog 10 #[.slice A l.length c] w fun e w' => e = .returned (.slice A (l.take 300).length c) ∧ w' = w := by
  by_cases h : l.length > 300
  · obtain ⟨ad, rfl⟩ := hA h
    have d1 : decide ((300 : Int) < (l.length : Int)) = true := decide_eq_true (by omega)
    have e1 : (l.take 300).length = 300 := by rw [List.length_take]; omega
    have d2 : decide ((300 : Int) ≤ (c : Int)) = true := decide_eq_true (by omega)
    have d3 : (300 ≤ c) = True := eq_true (by omega)
    rw [e1]
    go_enter Try.func10, Try.ntmps10
    go_wp2
    go_ret
    exact ⟨rfl, rfl⟩
  · have d1 : decide ((300 : Int) < (l.length : Int)) = false := decide_eq_false (by omega)
    have e1 : (l.take 300).length = l.length := by rw [List.length_take]; omega
    rw [e1]
    go_enter Try.func10, Try.ntmps10
    go_wp2
    go_ret
    exact ⟨rfl, rfl⟩
theorem C_few {w : World} {A : Option Addr} {l : List S54} (hr : Kd.C k54 w A l.length l) : Kd.C k54 w A (l.take 300).length (l.take 300) := by
  by_cases h : 300 ≤ l.length
  · exact Kd.C_take hr h
  · rw [List.take_of_length_le (by omega)]; exact hr
set_option maxHeartbeats 4000000 in
set_option maxRecDepth 100000 in
theorem codeMay_calls (haw : ∀ w, Calls Try.prog 13 #[] w fun e w' => e = .returned (.bool true) ∧ Below w.heap.size w w') (A : Option Addr) (c : Nat) (l : List S54) (w : World) (hr : Kd.C k54 w A l.length l) (hc : l.length ≤ c) :
    Calls Try.prog 3 #[.slice A l.length c] w fun e w' => e = .returned (.bool true) ∧ Below w.heap.size w w' := by
  have hfew := few_calls A c l w hc (fun h => by obtain ⟨ad, e, _⟩ := hr.2.2 (by omega); exact ⟨ad, e⟩)
  have hm := C_few hr
  have hcm : (l.take 300).length ≤ c := by rw [List.length_take]; omega
  revert hfew hm hcm
  generalize l.take 300 = m
  intro hfew hm hcm
  obtain ⟨k, hk⟩ := (may_ev m).rounds
  cases hO : hOk m with
  | true =>
    rw [hO] at hk
    go_enter Try.func3, Try.ntmps3
    go_wp2_with (first | (go_at_call 10; (with_reducible refine hfew.mono ?_); rintro e w0 ⟨rfl, rfl⟩) | (go_at_call 11; (with_reducible refine (check_calls A c m _ hm hcm).mono ?_); rintro e w1 ⟨rfl, hb1⟩; rw [hO, if_pos rfl]; have hm1 := Kd.C_below hm hb1) | (go_at_call 12; (with_reducible refine (headgateref22_May.calls k A c m true _ hm1 hcm hk).mono ?_); rintro e w2 ⟨rfl, hb2⟩) | (go_at_call 13; (with_reducible refine (haw _).mono ?_); rintro e w3 ⟨rfl, hb3⟩))
    go_ret
    exact ⟨rfl, below_then (below_then hb1 hb1.size hb2) (Nat.le_trans hb1.size hb2.size) hb3⟩
  | false =>
    rw [hO] at hk
    go_enter Try.func3, Try.ntmps3
    go_wp2_with (first | (go_at_call 10; (with_reducible refine hfew.mono ?_); rintro e w0 ⟨rfl, rfl⟩) | (go_at_call 11; (with_reducible refine (check_calls A c m _ hm hcm).mono ?_); rintro e w1 ⟨rfl, hb1⟩; rw [hO, if_neg (by decide)]; have hm1 := Kd.C_below hm hb1) | (go_at_call 12; (with_reducible refine (headgateref22_May.calls k A c m false _ hm1 hcm hk).mono ?_); rintro e w2 ⟨rfl, hb2⟩) | (go_at_call 13; (with_reducible refine (haw _).mono ?_); rintro e w3 ⟨rfl, hb3⟩))
    go_ret
    exact ⟨rfl, below_then (below_then hb1 hb1.size hb2) (Nat.le_trans hb1.size hb2.size) hb3⟩
theorem codeMay_walk (A : Option Addr) (c : Nat) (l : List S54) (w : World) (hr : Kd.C k54 w A l.length l) (hc : l.length ≤ c) :
    Calls Try.prog 3 #[.slice A l.length c] w fun e w' => e = .returned (.bool true) ∧ Below w.heap.size w w' := codeMay_calls awake_calls A c l w hr hc
end Go.Proofs.Ytekbcfgcojecmaa.P
