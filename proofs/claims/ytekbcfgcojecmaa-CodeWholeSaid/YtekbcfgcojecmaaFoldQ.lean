import Derived.Test.YtekbcfgcojecmaaFoldP
import Derived.Test.YtekbcfgcojecmaaF23
namespace Go.Proofs.Ytekbcfgcojecmaa.P
open Go.RowKit Go.Proofs.YtekbcfgcojecmaaW.PrintWords Go.Proofs.YtekbcfgcojecmaaW.PrintLast Go.Proofs.YtekbcfgcojecmaaW.PrintMore
set_option linter.unusedVariables false
set_option linter.unusedSimpArgs false
/-- A number, or - and a number. -/
def constB (n : S35) : Bool := n.f0 == 1 || n.f0 == 5 && (rd_T35 n.f2 0).f0 == 1
theorem constB_f {n : S35} {z : Nat} {a : Int → Int → Int → Int} (h : Tr n z a) : headgateref21_Constant.f n.f0 n.f1 n.f2 = some (constB n) := by
  unfold headgateref21_Constant.f constB
  by_cases c1 : n.f0 = 1
  · rw [if_pos c1, c1]; rfl
  · rw [if_neg c1, beq_eq_false_iff_ne.2 c1, Bool.false_or]
    by_cases c5 : n.f0 = 5
    · rw [if_pos c5, c5]
      have : 0 < (n.f2.length : Int) := by cases h <;> (rename_i q _ _; first | (rw [q]; decide) | (exfalso; omega) | skip) <;> (simp_all; try omega)
      rw [if_pos this]
      rfl
    · rw [if_neg c5, beq_eq_false_iff_ne.2 c5]; rfl
theorem wrap_low (x : Int) : -9223372036854775808 ≤ wrap64 x := by unfold wrap64; omega
theorem tmod_low {a b : Int} (h : -9223372036854775808 ≤ a) : -9223372036854775808 ≤ Int.tmod a b := by
  by_cases c : 0 ≤ a
  · have := Int.tmod_nonneg b c; omega
  · have h1 := Int.natAbs_tmod a b
    have h2 := Nat.mod_le a.natAbs b.natAbs
    omega
theorem ite_low {c : Prop} [Decidable c] {x y L : Int} (h1 : L ≤ x) (h2 : L ≤ y) : L ≤ if c then x else y := by split <;> assumption
theorem apS_low (op : Int) {a b : Int} (ha : -9223372036854775808 ≤ a) (hb : -9223372036854775808 ≤ b) : -9223372036854775808 ≤ apS op a b := by
  have t := tmod_low (b := b) ha
  unfold apS
  repeat' first
    | exact wrap_low _
    | refine ite_low ?_ ?_
    | omega
/-- What is known of a constant's value. -/
def Const (a : Int → Int → Int → Int) : Prop := (∀ k t v, a k t v = a 0 0 0) ∧ -9223372036854775808 ≤ a 0 0 0
theorem constB_const {n : S35} {z : Nat} {a : Int → Int → Int → Int} (h : Tr n z a) (hc : constB n = true) : Const a := by
  unfold constB at hc
  cases h with
  | number _ h1 h2 h3 => exact ⟨fun _ _ _ => rfl, by show -9223372036854775808 ≤ n.f1; omega⟩
  | key _ h1 h2 h3 => rw [h2] at hc; exact absurd hc (by simp)
  | time _ h1 h2 h3 => rw [h2] at hc; exact absurd hc (by simp)
  | value _ h1 h2 h3 => rw [h2] at hc; exact absurd hc (by simp)
  | one _ x z a h1 h2 h3 hx =>
    rw [h1] at hc
    have e : rd_T35 [x] 0 = x := rfl
    rw [e] at hc
    have h5 : n.f0 = 5 := by
      rcases h2 with h | h
      · exact h
      · rw [h] at hc; exact absurd hc (by simp)
    have hx1 : x.f0 = 1 := by rw [h5] at hc; simpa using hc
    have hk : ∀ k t v, a k t v = a 0 0 0 := by
      cases hx with
      | number _ q1 q2 q3 => exact fun _ _ _ => rfl
      | key _ q1 q2 q3 => omega
      | time _ q1 q2 q3 => omega
      | value _ q1 q2 q3 => omega
      | one _ _ _ _ _ q2 _ _ => omega
      | two _ _ _ _ _ _ _ _ q2 _ _ _ => omega
      | if3 _ _ _ _ _ _ _ _ _ _ _ q2 _ _ _ _ => omega
    refine ⟨fun k t v => by simp only [hk k t v], ?_⟩
    simp only [h5]
    exact wrap_low _
  | two _ x y z1 z2 a b h1 h2 h3 hx hy =>
    exfalso
    simp only [Bool.or_eq_true, beq_iff_eq, Bool.and_eq_true] at hc
    omega
  | if3 _ x y u z1 z2 z3 a b c h1 h2 h3 hx hy hu =>
    exfalso
    simp only [Bool.or_eq_true, beq_iff_eq, Bool.and_eq_true] at hc
    omega
/-- The end of folding: a tree whose values are constants is its value. -/
theorem fold_end {m : S35} {z : Nat} {a : Int → Int → Int → Int} (h : Tr m z a) (hz : 2 ≤ z) (all : Bool) (hall : all = true → Const a) :
    ∃ n' z', Tr n' z' a ∧ z' ≤ z ∧ Ev (fun k => headgateref21_reckon.j1 k all false m.f0 m.f1 m.f2) (n'.f0, n'.f1, n'.f2) := by
  have stay : Ev (fun k => headgateref21_reckon.j2 k true m.f0 m.f1 m.f2) (m.f0, m.f1, m.f2) := by
    refine Ev.step (fun k => by rw [headgateref21_reckon.j2]) ?_
    simp only [if_true]
    exact Ev.now _
  cases all with
  | false =>
    refine ⟨m, z, h, Nat.le_refl _, ?_⟩
    refine Ev.step (fun k => by rw [headgateref21_reckon.j1]) ?_
    simp only [Bool.false_eq_true, if_false]
    exact stay
  | true =>
    obtain ⟨hk, hlow⟩ := hall rfl
    obtain ⟨r, rfl⟩ : ∃ r, a = fun _ _ _ => r := ⟨a 0 0 0, by funext k t v; exact hk k t v⟩
    have hlow : -9223372036854775808 ≤ r := hlow
    have hv : Ev (fun k => headgateref21_Value.f k m.f0 m.f1 m.f2 0 0 0) r := tr_val h 0 0 0
    cases hc : constB m with
    | true =>
      refine ⟨m, z, h, Nat.le_refl _, ?_⟩
      refine Ev.step (fun k => by rw [headgateref21_reckon.j1]) ?_
      simp only [Bool.false_eq_true, if_false, if_true, constB_f h, hc, Option.bind_some]
      exact stay
    | false =>
      have go : ∀ q : Int × Int × List S35, Ev (fun k => if r ≥ 0 then some (1, r, ([] : List S35)) else if wrap64 (-r) < 0 then some (m.f0, m.f1, m.f2) else some (5, 0, [(⟨1, wrap64 (-r), []⟩ : S35)])) q → Ev (fun k => headgateref21_reckon.j1 k true false m.f0 m.f1 m.f2) q := by
        intro q hr
        refine Ev.step (fun k => by rw [headgateref21_reckon.j1]) ?_
        simp only [Bool.false_eq_true, if_false, if_true, constB_f h, hc, Option.bind_some]
        refine Ev.step (fun k => by rw [headgateref21_reckon.j2]) ?_
        simp only [Bool.false_eq_true, if_false]
        refine Ev.bind hv ?_
        exact hr
      by_cases c1 : r ≥ 0
      · refine ⟨⟨1, r, []⟩, 1, .number ⟨1, r, []⟩ rfl rfl c1, by omega, go _ ?_⟩
        simp only [if_pos c1]; exact Ev.now _
      · by_cases c2 : wrap64 (-r) < 0
        · refine ⟨m, z, h, Nat.le_refl _, go _ ?_⟩
          simp only [if_neg c1, if_pos c2]; exact Ev.now _
        · have h2 := Tr.one ⟨5, 0, [⟨1, wrap64 (-r), []⟩]⟩ ⟨1, wrap64 (-r), []⟩ 1 _ rfl (.inl rfl) rfl (.number ⟨1, wrap64 (-r), []⟩ rfl rfl (by show 0 ≤ wrap64 (-r); omega))
          have e2 : wrap64 (-(wrap64 (-r))) = r := by unfold wrap64 at c2 ⊢; omega
          have e3 : (fun (k t v : Int) => apS 5 (wrap64 (-r)) 0) = fun _ _ _ => r := by
            funext k t v
            exact e2
          refine ⟨⟨5, 0, [⟨1, wrap64 (-r), []⟩]⟩, 1 + 1, ?_, by omega, go _ ?_⟩
          · rw [← e3]; exact h2
          · simp only [if_neg c1, if_neg c2]; exact Ev.now _
/-- The loop over what stands beneath. -/
theorem fold_l0 (o na m0 m1 : Int) (kids : List S35) (hl : kids.length ≤ 3) (R : Int × Int × List S35) : ∀ (ys : List (S35 × S35)) (pre acc : List S35) (all : Bool), kids = pre ++ ys.map Prod.fst → acc.length = pre.length → (∀ p ∈ ys, Ev (fun k => headgateref21_reckon.f k p.1.f0 p.1.f1 p.1.f2) (p.2.f0, p.2.f1, p.2.f2) ∧ headgateref21_Constant.f p.2.f0 p.2.f1 p.2.f2 = some (constB p.2)) →
    Ev (fun k => headgateref21_reckon.l0 k (all && ys.all (fun p => constB p.2)) (kids.length : Int) o na kids m0 m1 (acc ++ ys.map Prod.snd)) R → Ev (fun k => headgateref21_reckon.l0 k all (pre.length : Int) o na kids m0 m1 acc) R := by
  intro ys
  induction ys with
  | nil =>
    intro pre acc all hk ha _ h
    have : kids.length = pre.length := by rw [hk]; simp
    rw [this] at h
    simpa using h
  | cons y ys ih =>
    intro pre acc all hk ha hys h
    have hpl : pre.length < kids.length := by rw [hk]; simp
    have hy : rd_T35 kids (pre.length : Int) = y.1 := by rw [hk]; unfold rd_T35; simp [List.getD_eq_getElem?_getD]
    obtain ⟨y1, y2⟩ := hys y (by simp)
    have h2 := ih (pre ++ [y.1]) (acc ++ [y.2]) (all && constB y.2) (by rw [hk]; simp) (by simp [ha]) (fun p hp => hys p (by simp [hp])) (by simpa [Bool.and_assoc] using h)
    have ew : wrap64 ((pre.length : Int) + 1) = (((pre ++ [y.1]).length : Nat) : Int) := by simp; unfold wrap64; omega
    have ey : (⟨y.2.f0, y.2.f1, y.2.f2⟩ : S35) = y.2 := by obtain ⟨_, q⟩ := y; cases q; rfl
    refine Ev.step (fun k => by rw [headgateref21_reckon.l0]) ?_
    simp only [if_pos (show (pre.length : Int) < (kids.length : Int) by omega), if_pos (show (0 : Int) ≤ (pre.length : Int) by omega), hy]
    refine Ev.bind y1 ?_
    simp only [if_pos (show acc.length < 3518437208883 by omega), Option.bind_some, ey, ew, y2]
    cases all with
    | true => simpa using h2
    | false => simpa using h2
theorem fold_tr {n : S35} {z : Nat} {a : Int → Int → Int → Int} (h : Tr n z a) : ∃ n' z', Tr n' z' a ∧ z' ≤ z ∧ Ev (fun k => headgateref21_reckon.f k n.f0 n.f1 n.f2) (n'.f0, n'.f1, n'.f2) := by
  have leaf : ∀ (n : S35), n.f2 = [] → Ev (fun k => headgateref21_reckon.f k n.f0 n.f1 n.f2) (n.f0, n.f1, n.f2) := by
    intro n h1
    refine Ev.step (fun k => by rw [headgateref21_reckon.f]) ?_
    simp only [h1, List.length_nil, if_pos (show ((0 : Nat) : Int) = 0 from rfl)]
    exact Ev.now _
  have node : ∀ (n : S35) (ys : List (S35 × S35)) (R : Int × Int × List S35), n.f2 = ys.map Prod.fst → 0 < ys.length → ys.length ≤ 3 → (∀ p ∈ ys, Ev (fun k => headgateref21_reckon.f k p.1.f0 p.1.f1 p.1.f2) (p.2.f0, p.2.f1, p.2.f2) ∧ headgateref21_Constant.f p.2.f0 p.2.f1 p.2.f2 = some (constB p.2)) →
      Ev (fun k => headgateref21_reckon.l0 k (ys.all (fun p => constB p.2)) (n.f2.length : Int) n.f0 n.f1 n.f2 n.f0 n.f1 (ys.map Prod.snd)) R → Ev (fun k => headgateref21_reckon.f k n.f0 n.f1 n.f2) R := by
    intro n ys R h1 h2 h3 h4 h5
    have hlen : n.f2.length = ys.length := by rw [h1]; simp
    refine Ev.step (fun k => by rw [headgateref21_reckon.f]) ?_
    simp only [if_neg (show ¬ (n.f2.length : Int) = 0 by omega)]
    exact fold_l0 n.f0 n.f1 n.f0 n.f1 n.f2 (by omega) R ys [] [] true (by simpa using h1) rfl h4 (by simpa using h5)
  induction h with
  | number n h1 h2 h3 => exact ⟨n, 1, .number n h1 h2 h3, Nat.le_refl _, leaf n h1⟩
  | key n h1 h2 h3 => exact ⟨n, 1, .key n h1 h2 h3, Nat.le_refl _, leaf n h1⟩
  | time n h1 h2 h3 => exact ⟨n, 1, .time n h1 h2 h3, Nat.le_refl _, leaf n h1⟩
  | value n h1 h2 h3 => exact ⟨n, 1, .value n h1 h2 h3, Nat.le_refl _, leaf n h1⟩
  | one n x z a h1 h2 h3 hx ih =>
    obtain ⟨x', z', t', hz', ev⟩ := ih
    have hm : Tr ⟨n.f0, n.f1, [x']⟩ (1 + z') (fun k t v => apS n.f0 (a k t v) 0) := .one ⟨n.f0, n.f1, [x']⟩ x' z' a rfl h2 h3 t'
    have p' := t'.pos
    obtain ⟨n', zz, q1, q2, q3⟩ := fold_end hm (by omega) (constB x') (fun hc => by
      obtain ⟨k1, k2⟩ := constB_const t' hc
      exact ⟨fun k t v => by simp only [k1 k t v], apS_low _ k2 (by decide)⟩)
    refine ⟨n', zz, q1, by omega, node n [(x, x')] _ (by simpa using h1) (by simp) (by simp) (by simp; exact ⟨ev, constB_f t'⟩) ?_⟩
    rw [h1]
    refine Ev.step (fun k => by rw [headgateref21_reckon.l0]) ?_
    simp only [List.map_cons, List.map_nil, List.all_cons, List.all_nil, Bool.and_true, List.length_singleton, if_neg (show ¬ ((1 : Nat) : Int) < ((1 : Nat) : Int) by omega), if_neg (show ¬ n.f0 = 22 by omega)]
    exact q3
  | two n x y z1 z2 a b h1 h2 h3 hx hy ih1 ih2 =>
    obtain ⟨x', zx, tx, hzx, ex⟩ := ih1
    obtain ⟨y', zy, ty, hzy, ey⟩ := ih2
    have hm : Tr ⟨n.f0, n.f1, [x', y']⟩ (1 + zx + zy) (fun k t v => apS n.f0 (a k t v) (b k t v)) := .two ⟨n.f0, n.f1, [x', y']⟩ x' y' zx zy a b rfl h2 h3 tx ty
    have p' := tx.pos
    obtain ⟨n', zz, q1, q2, q3⟩ := fold_end hm (by omega) (constB x' && constB y') (fun hc => by
      rw [Bool.and_eq_true] at hc
      obtain ⟨k1, k2⟩ := constB_const tx hc.1
      obtain ⟨j1, j2⟩ := constB_const ty hc.2
      exact ⟨fun k t v => by simp only [k1 k t v, j1 k t v], apS_low _ k2 j2⟩)
    refine ⟨n', zz, q1, by omega, node n [(x, x'), (y, y')] _ (by simpa using h1) (by simp) (by simp) (by simp; exact ⟨⟨ex, constB_f tx⟩, ⟨ey, constB_f ty⟩⟩) ?_⟩
    rw [h1]
    refine Ev.step (fun k => by rw [headgateref21_reckon.l0]) ?_
    simp only [List.map_cons, List.map_nil, List.all_cons, List.all_nil, Bool.and_true, List.length_cons, List.length_nil, if_neg (show ¬ ((0 + 1 + 1 : Nat) : Int) < ((0 + 1 + 1 : Nat) : Int) by omega), if_neg (show ¬ n.f0 = 22 by omega)]
    exact q3
  | if3 n x y u z1 z2 z3 a b c h1 h2 h3 hx hy hu ih1 ih2 ih3 =>
    obtain ⟨x', zx, tx, hzx, ex⟩ := ih1
    obtain ⟨y', zy, ty, hzy, ey⟩ := ih2
    obtain ⟨u', zu, tu, hzu, eu⟩ := ih3
    have hm : Tr ⟨n.f0, n.f1, [x', y', u']⟩ (1 + zx + zy + zu) (fun k t v => if a k t v ≠ 0 then b k t v else c k t v) := .if3 ⟨n.f0, n.f1, [x', y', u']⟩ x' y' u' zx zy zu a b c rfl h2 h3 tx ty tu
    have p' := tx.pos
    have start : ∀ R, Ev (fun k => headgateref21_reckon.j1 k (constB x' && (constB y' && constB u')) (constB x') n.f0 n.f1 [x', y', u']) R → Ev (fun k => headgateref21_reckon.f k n.f0 n.f1 n.f2) R := by
      intro R hR
      refine node n [(x, x'), (y, y'), (u, u')] _ (by simpa using h1) (by simp) (by simp) (by simp; exact ⟨⟨ex, constB_f tx⟩, ⟨ey, constB_f ty⟩, ⟨eu, constB_f tu⟩⟩) ?_
      rw [h1]
      refine Ev.step (fun k => by rw [headgateref21_reckon.l0]) ?_
      simp only [List.map_cons, List.map_nil, List.all_cons, List.all_nil, Bool.and_true, List.length_cons, List.length_nil, if_neg (show ¬ ((0 + 1 + 1 + 1 : Nat) : Int) < ((0 + 1 + 1 + 1 : Nat) : Int) by omega), if_pos h2, if_pos (show (0 : Int) < ((0 + 1 + 1 + 1 : Nat) : Int) by omega), show rd_T35 [x', y', u'] 0 = x' from rfl, constB_f tx, Option.bind_some]
      exact hR
    cases hc : constB x' with
    | false =>
      obtain ⟨n', zz, q1, q2, q3⟩ := fold_end hm (by omega) false (fun q => by cases q)
      refine ⟨n', zz, q1, by omega, start _ ?_⟩
      rw [hc, Bool.false_and]
      exact q3
    | true =>
      obtain ⟨k1, k2⟩ := constB_const tx hc
      have hv := tr_val tx 0 0 0
      by_cases c0 : a 0 0 0 = 0
      · refine ⟨u', zu, ?_, by omega, start _ ?_⟩
        · have e : (fun (k t v : Int) => if a k t v ≠ 0 then b k t v else c k t v) = c := by funext k t v; rw [k1 k t v, if_neg (fun q => q c0)]
          rw [e]; exact tu
        · rw [hc]
          refine Ev.step (fun k => by rw [headgateref21_reckon.j1]) ?_
          simp only [if_true, List.length_cons, List.length_nil, if_pos (show (0 : Int) < ((0 + 1 + 1 + 1 : Nat) : Int) by omega), show rd_T35 [x', y', u'] 0 = x' from rfl]
          refine Ev.bind hv ?_
          simp only [if_pos c0, if_pos (show (2 : Int) < ((0 + 1 + 1 + 1 : Nat) : Int) by omega), show rd_T35 [x', y', u'] 2 = u' from rfl]
          exact Ev.now _
      · refine ⟨y', zy, ?_, by omega, start _ ?_⟩
        · have e : (fun (k t v : Int) => if a k t v ≠ 0 then b k t v else c k t v) = b := by funext k t v; rw [k1 k t v, if_pos c0]
          rw [e]; exact ty
        · rw [hc]
          refine Ev.step (fun k => by rw [headgateref21_reckon.j1]) ?_
          simp only [if_true, List.length_cons, List.length_nil, if_pos (show (0 : Int) < ((0 + 1 + 1 + 1 : Nat) : Int) by omega), show rd_T35 [x', y', u'] 0 = x' from rfl]
          refine Ev.bind hv ?_
          simp only [if_neg c0, if_pos (show (1 : Int) < ((0 + 1 + 1 + 1 : Nat) : Int) by omega), show rd_T35 [x', y', u'] 1 = y' from rfl]
          exact Ev.now _
end Go.Proofs.Ytekbcfgcojecmaa.P
