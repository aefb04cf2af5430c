/- What both sizes tell of a tree, and that its code leaves its value: plain laws. No condition. -/
import Derived.Test.YtekbcfgcojecmaaF14
import Derived.Test.YtekbcfgcojecmaaF16
import Derived.Test.YtekbcfgcojecmaaF19
import Derived.Test.YtekbcfgcojecmaaF29
import Derived.Test.YtekbcfgcojecmaaF30
import Derived.Test.YtekbcfgcojecmaaF43
namespace Go.Proofs.Ytekbcfgcojecmaa.P
open Go.RowKit Go.Proofs.YtekbcfgcojecmaaW.PrintWords Go.Proofs.YtekbcfgcojecmaaW.PrintLast Go.Proofs.YtekbcfgcojecmaaW.PrintMore
set_option linter.unusedVariables false
set_option linter.unusedSimpArgs false
theorem wid2 {x : Int} (h0 : -9223372036854775808 ≤ x) (h1 : x ≤ 9223372036854775807) : wrap64 x = x := by unfold wrap64; omega
theorem mn_eq (a b : Int) : mn a b = if a < b then a else b := by unfold mn; split <;> split <;> omega
theorem mx_eq (a b : Int) : mx a b = if b < a then a else b := by unfold mx; split <;> split <;> omega
theorem apC_eq : apC = apS := by
  funext op a b
  unfold apC
  have h : tree_Apply.f 3 op a b = some (apS op a b) := by
    unfold tree_Apply.f apS
    simp only [tree_Apply.j0, tree_truth.f]
    by_cases c5 : op = 5
    · subst c5; simp [mn_eq, mx_eq]; try (repeat' split); all_goals (first | rfl | omega | simp_all)
    by_cases c6 : op = 6
    · subst c6; simp [mn_eq, mx_eq]; try (repeat' split); all_goals (first | rfl | omega | simp_all)
    by_cases c7 : op = 7
    · subst c7; simp [mn_eq, mx_eq]; try (repeat' split); all_goals (first | rfl | omega | simp_all)
    by_cases c8 : op = 8
    · subst c8; simp [mn_eq, mx_eq]; try (repeat' split); all_goals (first | rfl | omega | simp_all)
    by_cases c9 : op = 9
    · subst c9; simp [mn_eq, mx_eq]; try (repeat' split); all_goals (first | rfl | omega | simp_all)
    by_cases c10 : op = 10
    · subst c10; simp [mn_eq, mx_eq]; try (repeat' split); all_goals (first | rfl | omega | simp_all)
    by_cases c11 : op = 11
    · subst c11; simp [mn_eq, mx_eq]; try (repeat' split); all_goals (first | rfl | omega | simp_all)
    by_cases c12 : op = 12
    · subst c12; simp [mn_eq, mx_eq]; try (repeat' split); all_goals (first | rfl | omega | simp_all)
    by_cases c13 : op = 13
    · subst c13; simp [mn_eq, mx_eq]; try (repeat' split); all_goals (first | rfl | omega | simp_all)
    by_cases c14 : op = 14
    · subst c14; simp [mn_eq, mx_eq]; try (repeat' split); all_goals (first | rfl | omega | simp_all)
    by_cases c15 : op = 15
    · subst c15; simp [mn_eq, mx_eq]; try (repeat' split); all_goals (first | rfl | omega | simp_all)
    by_cases c16 : op = 16
    · subst c16; simp [mn_eq, mx_eq]; try (repeat' split); all_goals (first | rfl | omega | simp_all)
    by_cases c17 : op = 17
    · subst c17; simp [mn_eq, mx_eq]; try (repeat' split); all_goals (first | rfl | omega | simp_all)
    by_cases c18 : op = 18
    · subst c18; simp [mn_eq, mx_eq]; try (repeat' split); all_goals (first | rfl | omega | simp_all)
    by_cases c19 : op = 19
    · subst c19; simp [mn_eq, mx_eq]; try (repeat' split); all_goals (first | rfl | omega | simp_all)
    by_cases c20 : op = 20
    · subst c20; simp [mn_eq, mx_eq]; try (repeat' split); all_goals (first | rfl | omega | simp_all)
    by_cases c21 : op = 21
    · subst c21; simp [mn_eq, mx_eq]; try (repeat' split); all_goals (first | rfl | omega | simp_all)
    simp [c5, c6, c7, c8, c9, c10, c11, c12, c13, c14, c15, c16, c17, c18, c19, c20, c21]
  rw [h]
  rfl
/-- What the code leaves. -/
theorem runs_same (l : List S54) (hO : hOk l = true) (key time v : Int) : ∃ r, runC apC l key time v (l.length + 1) 0 0 (List.replicate 65 0) = some r ∧ runR apS l key time v (l.length + 1) 0 [] = some r := by
  obtain ⟨H, g⟩ := good_of_hOk hO
  obtain ⟨r, h1, h2⟩ := run_both g apC key time v (l.length + 1) 0 0 (List.replicate 65 0) (by omega) (Nat.zero_le _) (by simpa using g.inv.zero) (by simp)
  rw [List.take_zero] at h2
  exact ⟨r, h1, by rw [← apC_eq]; exact h2⟩
/-- A tree of z nodes that may be. -/
def OB (n : S35) (z : Nat) : Prop := 1 ≤ z ∧ ∀ key time v at_, ∃ c r, Of apS key time v n at_ c r ∧ c.length ≤ 4 * z ∧ 1 ≤ c.length
def OBs : List S35 → Nat → Prop
  | [], s => s = 0
  | y :: ys, s => ∃ z s', OB y z ∧ OBs ys s' ∧ s = z + s'
/-- What both sizes tell of a tree: z nodes, or 0. -/
structure Sz (n : S35) (z : Nat) : Prop where
  small : z ≤ 256
  code : Ev (fun k => tree_Size.f k n.f0 n.f1 n.f2) ((z : Int), decide (0 < z))
  doc : Ev (fun k => headgateref21_Size.f k n.f0 n.f1 n.f2) (z : Int)
  good : 0 < z → OB n z
theorem sz_loop (pre ys kids : List S35) (a b : Int) (hk : kids = pre ++ ys) (hl : kids.length ≤ 3) (hys : ∀ y ∈ ys, ∃ z, Sz y z) (x : Nat) (hx : 1 ≤ x) (hx2 : x ≤ 256) :
    ∃ z' : Nat, z' ≤ 256 ∧ Ev (fun k => tree_Size.l0 k (x : Int) kids (kids.length : Int) (pre.length : Int)) ((z' : Int), decide (0 < z')) ∧ Ev (fun k => headgateref21_Size.l0 k (x : Int) (pre.length : Int) a b kids) (z' : Int) ∧ (0 < z' → ∃ s, OBs ys s ∧ z' = x + s) := by
  induction ys generalizing pre x with
  | nil =>
    have hpl : kids.length = pre.length := by rw [hk]; simp
    refine ⟨x, hx2, ?_, ?_, fun _ => ⟨0, rfl, rfl⟩⟩
    · refine Ev.step (fun k => by rw [tree_Size.l0]) ?_
      simp only [if_neg (show ¬ (pre.length : Int) < (kids.length : Int) by omega), decide_eq_true (show 0 < x by omega)]
      exact Ev.now _
    · refine Ev.step (fun k => by rw [headgateref21_Size.l0]) ?_
      simp only [if_neg (show ¬ (pre.length : Int) < (kids.length : Int) by omega)]
      exact Ev.now _
  | cons y ys ih =>
    have hpl : pre.length < kids.length := by rw [hk]; simp
    have hy : rd_T35 kids (pre.length : Int) = y := by rw [hk]; unfold rd_T35; simp [List.getD_eq_getElem?_getD]
    obtain ⟨z, hz⟩ := hys y (by simp)
    have hs := hz.small
    by_cases z0 : z = 0
    · subst z0
      refine ⟨0, by omega, ?_, ?_, fun h => by omega⟩
      · refine Ev.step (fun k => by rw [tree_Size.l0]) ?_
        simp only [if_pos (show (pre.length : Int) < (kids.length : Int) by omega), if_pos (show (0 : Int) ≤ (pre.length : Int) by omega), hy]
        refine Ev.bind hz.code ?_
        simp only [Nat.lt_irrefl, decide_false, Bool.false_eq_true, if_false]
        exact Ev.now _
      · refine Ev.step (fun k => by rw [headgateref21_Size.l0]) ?_
        simp only [if_pos (show (pre.length : Int) < (kids.length : Int) by omega), if_pos (show (0 : Int) ≤ (pre.length : Int) by omega), hy]
        refine Ev.bind hz.doc ?_
        simp only [if_pos (show ((0 : Nat) : Int) = 0 from rfl)]
        exact Ev.now _
    · have ew : wrap64 ((x : Int) + (z : Int)) = ((x + z : Nat) : Int) := by rw [wid2 (by omega) (by omega)]; omega
      have ew1 : wrap64 ((pre.length : Int) + 1) = (((pre ++ [y]).length : Nat) : Int) := by rw [wid2 (by omega) (by omega)]; simp
      by_cases big : x + z > 256
      · refine ⟨0, by omega, ?_, ?_, fun h => by omega⟩
        · refine Ev.step (fun k => by rw [tree_Size.l0]) ?_
          simp only [if_pos (show (pre.length : Int) < (kids.length : Int) by omega), if_pos (show (0 : Int) ≤ (pre.length : Int) by omega), hy]
          refine Ev.bind hz.code ?_
          simp only [decide_eq_true (show 0 < z by omega), if_true, ew, if_pos (show ((x + z : Nat) : Int) > 256 by omega)]
          exact Ev.now _
        · refine Ev.step (fun k => by rw [headgateref21_Size.l0]) ?_
          simp only [if_pos (show (pre.length : Int) < (kids.length : Int) by omega), if_pos (show (0 : Int) ≤ (pre.length : Int) by omega), hy]
          refine Ev.bind hz.doc ?_
          simp only [if_neg (show ¬ (z : Int) = 0 by omega), ew, if_pos (show ((x + z : Nat) : Int) > 256 by omega)]
          exact Ev.now _
      · obtain ⟨z', h1, h2, h3, h4⟩ := ih (pre ++ [y]) (by rw [hk]; simp) (fun q hq => hys q (by simp [hq])) (x + z) (by omega) (by omega)
        refine ⟨z', h1, ?_, ?_, fun h => ?_⟩
        · refine Ev.step (fun k => by rw [tree_Size.l0]) ?_
          simp only [if_pos (show (pre.length : Int) < (kids.length : Int) by omega), if_pos (show (0 : Int) ≤ (pre.length : Int) by omega), hy]
          refine Ev.bind hz.code ?_
          simp only [decide_eq_true (show 0 < z by omega), if_true, ew, if_neg (show ¬ ((x + z : Nat) : Int) > 256 by omega), ew1]
          exact h2
        · refine Ev.step (fun k => by rw [headgateref21_Size.l0]) ?_
          simp only [if_pos (show (pre.length : Int) < (kids.length : Int) by omega), if_pos (show (0 : Int) ≤ (pre.length : Int) by omega), hy]
          refine Ev.bind hz.doc ?_
          simp only [if_neg (show ¬ (z : Int) = 0 by omega), ew, if_neg (show ¬ ((x + z : Nat) : Int) > 256 by omega), ew1]
          exact h3
        · obtain ⟨s, hs1, hs2⟩ := h4 h
          exact ⟨z + s, ⟨z, s, hz.good (by omega), hs1, rfl⟩, by omega⟩
/-- How many trees stand beneath. -/
def arity (op : Int) : Nat := if op ≤ 4 then 0 else if op ≤ 6 then 1 else if op = 22 then 3 else 2
theorem rbeneath (op : Int) : headgateref21_beneath.f op = some (arity op : Int) := by
  unfold headgateref21_beneath.f arity
  split
  · rfl
  · split
    · rfl
    · split <;> rfl
theorem cof_ok (op : Int) (h : 1 ≤ op ∧ op ≤ 22) : ∃ s lv, tree_of.f op = some (s, lv, (arity op : Int), true) := by
  obtain ⟨h1, h2⟩ := h
  have : op = 1 ∨ op = 2 ∨ op = 3 ∨ op = 4 ∨ op = 5 ∨ op = 6 ∨ op = 7 ∨ op = 8 ∨ op = 9 ∨ op = 10 ∨ op = 11 ∨ op = 12 ∨ op = 13 ∨ op = 14 ∨ op = 15 ∨ op = 16 ∨ op = 17 ∨ op = 18 ∨ op = 19 ∨ op = 20 ∨ op = 21 ∨ op = 22 := by omega
  rcases this with h | h | h | h | h | h | h | h | h | h | h | h | h | h | h | h | h | h | h | h | h | h <;> subst h <;> exact ⟨_, _, rfl⟩
theorem cof_bad (op : Int) (h : ¬ (1 ≤ op ∧ op ≤ 22)) : ∃ s lv b, tree_of.f op = some (s, lv, b, false) := by
  unfold tree_of.f
  rw [if_neg (by omega), if_neg (by omega), if_neg (by omega), if_neg (by omega), if_neg (by omega), if_neg (by omega), if_neg (by omega), if_neg (by omega), if_neg (by omega), if_neg (by omega), if_neg (by omega), if_neg (by omega), if_neg (by omega), if_neg (by omega), if_neg (by omega), if_neg (by omega), if_neg (by omega), if_neg (by omega), if_neg (by omega), if_neg (by omega), if_neg (by omega), if_neg (by omega)]
  exact ⟨_, _, _, rfl⟩
theorem ob_node (n : S35) (s : Nat) (h : OBs n.f2 s) (hl : n.f2.length = arity n.f0) (ho : 1 ≤ n.f0 ∧ n.f0 ≤ 22) (hn : n.f0 ≠ 1 → n.f1 = 0) : OB n (1 + s) := by
  refine ⟨by omega, fun key time v at_ => ?_⟩
  obtain ⟨op, na, kids⟩ := n
  simp only at h hl ho hn
  match kids, h with
  | [], h =>
    obtain rfl : s = 0 := h
    have hop : op = 1 ∨ op = 2 ∨ op = 3 ∨ op = 4 := by
      unfold arity at hl
      simp only [List.length_nil] at hl
      split at hl
      · omega
      · split at hl
        · omega
        · split at hl <;> omega
    rcases hop with h1 | h1 | h1 | h1
    · exact ⟨_, _, Of.number _ _ rfl h1, by simp, by simp⟩
    · exact ⟨_, _, Of.key _ _ rfl h1, by simp, by simp⟩
    · exact ⟨_, _, Of.time _ _ rfl h1, by simp, by simp⟩
    · exact ⟨_, _, Of.value _ _ rfl h1, by simp, by simp⟩
  | [x], h =>
    obtain ⟨z, s', hx, rfl, rfl⟩ := h
    have hop : op = 5 ∨ op = 6 := by
      unfold arity at hl
      simp only [List.length_singleton] at hl
      split at hl
      · omega
      · split at hl
        · omega
        · split at hl <;> omega
    obtain ⟨c, r, h1, h2, h3⟩ := hx.2 key time v at_
    exact ⟨_, _, Of.one _ x _ _ _ rfl hop h1, by simp; omega, by simp⟩
  | [x, y], h =>
    obtain ⟨z, s', hx, ⟨z2, s2, hy, rfl, rfl⟩, rfl⟩ := h
    have hop : 7 ≤ op ∧ op ≤ 21 := by
      unfold arity at hl
      simp only [List.length_cons, List.length_nil] at hl
      split at hl
      · omega
      · split at hl
        · omega
        · split at hl <;> omega
    obtain ⟨a, r0, a1, a2, a3⟩ := hx.2 key time v at_
    by_cases e18 : op = 18
    · obtain ⟨b, r1, b1, b2, b3⟩ := hy.2 key time v (at_ + a.length + 1)
      exact ⟨_, _, Of.and2 _ x y _ _ _ _ _ rfl e18 a1 b1, by simp; omega, by first | (simp; done) | (simp; omega)⟩
    · by_cases e19 : op = 19
      · obtain ⟨b, r1, b1, b2, b3⟩ := hy.2 key time v (at_ + a.length + 3)
        exact ⟨_, _, Of.or2 _ x y _ _ _ _ _ rfl e19 a1 b1, by simp; omega, by first | (simp; done) | (simp; omega)⟩
      · obtain ⟨b, r1, b1, b2, b3⟩ := hy.2 key time v (at_ + a.length)
        exact ⟨_, _, Of.two _ x y _ _ _ _ _ rfl (by simp only; omega) a1 b1, by simp; omega, by first | (simp; done) | (simp; omega)⟩
  | [x, y, u], h =>
    obtain ⟨z, s', hx, ⟨z2, s2, hy, ⟨z3, s3, hu, rfl, rfl⟩, rfl⟩, rfl⟩ := h
    have hop : op = 22 := by
      unfold arity at hl
      simp only [List.length_cons, List.length_nil] at hl
      split at hl
      · omega
      · split at hl
        · omega
        · split at hl <;> omega
    obtain ⟨a, r0, a1, a2, a3⟩ := hx.2 key time v at_
    obtain ⟨b, r1, b1, b2, b3⟩ := hy.2 key time v (at_ + a.length + 1)
    obtain ⟨d, r2, d1, d2, d3⟩ := hu.2 key time v (at_ + a.length + b.length + 2)
    exact ⟨_, _, Of.if3 _ x y u _ _ _ _ _ _ _ rfl hop a1 b1 d1, by simp; omega, by first | (simp; done) | (simp; omega)⟩
  | _ :: _ :: _ :: _ :: _, _ =>
    exfalso
    unfold arity at hl
    simp only [List.length_cons] at hl
    split at hl
    · omega
    · split at hl
      · omega
      · split at hl <;> omega
theorem sizes (n : S35) : ∃ z, Sz n z := by
  obtain ⟨op, na, kids⟩ := n
  have bad : ∀ (h1 : Ev (fun k => tree_Size.f k op na kids) (0, false)) (h2 : Ev (fun k => headgateref21_Size.f k op na kids) 0), ∃ z, Sz ⟨op, na, kids⟩ z := fun h1 h2 => ⟨0, by omega, h1, h2, fun h => by omega⟩
  have cj0 : ∀ b, b = true → Ev (fun k => tree_Size.j0 k b op na kids) (0, false) := fun b hb => by
    subst hb
    refine Ev.step (fun k => by rw [tree_Size.j0]) ?_
    simp only [if_true]
    exact Ev.now _
  have rj0 : ∀ b, b = true → Ev (fun k => headgateref21_Size.j0 k b op na kids) 0 := fun b hb => by
    subst hb
    refine Ev.step (fun k => by rw [headgateref21_Size.j0]) ?_
    simp only [if_true]
    exact Ev.now _
  by_cases ho : 1 ≤ op ∧ op ≤ 22
  rotate_left
  · refine bad ?_ ?_
    · obtain ⟨s, lv, b, e⟩ := cof_bad op ho
      refine Ev.step (fun k => by rw [tree_Size.f, e]) ?_
      simp only [Option.bind_some, Bool.false_eq_true, if_false]
      exact cj0 true rfl
    · refine Ev.step (fun k => by rw [headgateref21_Size.f]) ?_
      by_cases c1 : op < 1
      · simp only [if_pos c1]; exact rj0 true rfl
      · simp only [if_neg c1, if_pos (show op > 22 by omega)]; exact rj0 true rfl
  obtain ⟨s, lv, e⟩ := cof_ok op ho
  by_cases hl : kids.length = arity op
  rotate_left
  · refine bad ?_ ?_
    · refine Ev.step (fun k => by rw [tree_Size.f, e]) ?_
      simp only [Option.bind_some, if_true, if_neg (show ¬ (kids.length : Int) = (arity op : Int) by omega)]
      exact cj0 true rfl
    · refine Ev.step (fun k => by rw [headgateref21_Size.f]) ?_
      simp only [if_neg (show ¬ op < 1 by omega), if_neg (show ¬ op > 22 by omega), rbeneath, Option.bind_some, if_neg (show ¬ (kids.length : Int) = (arity op : Int) by omega)]
      exact rj0 true rfl
  have hl' : (kids.length : Int) = (arity op : Int) := by omega
  by_cases hn : (op = 1 ∧ 0 ≤ na) ∨ (op ≠ 1 ∧ na = 0)
  rotate_left
  · refine bad ?_ ?_
    · refine Ev.step (fun k => by rw [tree_Size.f, e]) ?_
      simp only [Option.bind_some, if_true, if_pos hl']
      by_cases c1 : op = 1
      · simp only [if_pos c1, if_pos (show na < 0 by omega)]
        exact cj0 true rfl
      · simp only [if_neg c1]
        exact cj0 _ (by simp; omega)
    · refine Ev.step (fun k => by rw [headgateref21_Size.f]) ?_
      simp only [if_neg (show ¬ op < 1 by omega), if_neg (show ¬ op > 22 by omega), rbeneath, Option.bind_some, if_pos hl']
      by_cases c1 : na < 0
      · simp only [if_pos c1]
        exact rj0 true rfl
      · simp only [if_neg c1, if_pos (show na > 0 by omega)]
        exact rj0 _ (by simp; omega)
  have hkl : kids.length ≤ 3 := by
    rw [hl]; unfold arity
    split
    · omega
    · split
      · omega
      · split <;> omega
  obtain ⟨z', h1, h2, h3, h4⟩ := sz_loop [] kids kids op na rfl hkl (fun y hy => sizes y) 1 (Nat.le_refl _) (by omega)
  refine ⟨z', h1, ?_, ?_, fun h => ?_⟩
  · refine Ev.step (fun k => by rw [tree_Size.f, e]) ?_
    simp only [Option.bind_some, if_true, if_pos hl']
    have go : Ev (fun k => tree_Size.j0 k false op na kids) ((z' : Int), decide (0 < z')) := by
      refine Ev.step (fun k => by rw [tree_Size.j0]) ?_
      simp only [Bool.false_eq_true, if_false]
      exact h2
    by_cases c1 : op = 1
    · simp only [if_pos c1, if_neg (show ¬ na < 0 by omega)]
      exact go
    · have en : na = 0 := by
        rcases hn with ⟨q, _⟩ | ⟨_, q⟩
        · exact absurd q c1
        · exact q
      have eb : (na != 0) = false := by rw [en]; rfl
      simp only [if_neg c1, eb]
      exact go
  · refine Ev.step (fun k => by rw [headgateref21_Size.f]) ?_
    simp only [if_neg (show ¬ op < 1 by omega), if_neg (show ¬ op > 22 by omega), rbeneath, Option.bind_some, if_pos hl', if_neg (show ¬ na < 0 by omega)]
    have go : Ev (fun k => headgateref21_Size.j0 k false op na kids) (z' : Int) := by
      refine Ev.step (fun k => by rw [headgateref21_Size.j0]) ?_
      simp only [Bool.false_eq_true, if_false]
      exact h3
    by_cases c1 : na > 0
    · have en : op = 1 := by omega
      have eb : (op != 1) = false := by rw [en]; rfl
      simp only [if_pos c1, eb]
      exact go
    · simp only [if_neg c1]
      exact go
  · obtain ⟨s, hs, rfl⟩ := h4 h
    refine ob_node ⟨op, na, kids⟩ s hs hl ho (fun c => ?_)
    rcases hn with ⟨q, _⟩ | ⟨_, q⟩
    · exact absurd q c
    · exact q
termination_by SizeOf.sizeOf n
decreasing_by
  have := List.sizeOf_lt_of_mem hy
  simp_wf
  omega
theorem runR_more (ap : Int → Int → Int → Int) (l : List S54) (key time v : Int) : ∀ (k at_ : Nat) (s : List Int) (r : Int), runR ap l key time v k at_ s = some r → ∀ m, runR ap l key time v (k + m) at_ s = some r := by
  intro k
  induction k with
  | zero => intro at_ s r h; cases h
  | succ k ih =>
    intro at_ s r h m
    rw [show k + 1 + m = (k + m) + 1 by omega]
    simp only [runR] at h ⊢
    split at h
    · rename_i c
      rw [if_pos c]
      obtain ⟨q, hq, h⟩ := Option.bind_eq_some_iff.1 h
      rw [hq]
      exact ih _ _ _ h m
    · rename_i c
      rw [if_neg c]
      exact h
/-- A tree's code leaves the tree's value. -/
theorem run_of {key time v : Int} {n : S35} {c : List S54} {r : Int} (h : Of apS key time v n 0 c r) (hO : hOk c = true) : runC apC c key time v (c.length + 1) 0 0 (List.replicate 65 0) = some r := by
  obtain ⟨r', h1, h2⟩ := runs_same c hO key time v
  have hseg : Seg c 0 c := ⟨by omega, fun j hj => by rw [Nat.zero_add]; unfold rd_T54; simp⟩
  obtain ⟨m, hg⟩ := of_goes (key := key) (time := time) (v := v) (fun a b => by unfold apS; simp) (fun a b => by unfold apS; simp) h c [] hseg
  have h3 := hg 1
  rw [Nat.zero_add, List.nil_append] at h3
  have h4 : runR apS c key time v 1 c.length [r] = some r := by
    simp only [runR]
    rw [if_neg (by omega), if_pos (by simp)]
    rfl
  rw [h4] at h3
  have h5 := runR_more apS c key time v _ _ _ _ h3 (c.length + 1)
  have h6 := runR_more apS c key time v _ _ _ _ h2 (1 + m)
  rw [show 1 + m + (c.length + 1) = c.length + 1 + (1 + m) by omega, h6] at h5
  obtain rfl := Option.some.inj h5
  exact h1
theorem compile_ev (n : S35) (z : Nat) (hz : Sz n z) : (z = 0 ∧ Ev (fun k => code_Compile.f k n.f0 n.f1 n.f2) ([], 1)) ∨
    (0 < z ∧ ∀ key time v, ∃ c r, Of apS key time v n 0 c r ∧ c.length ≤ 1024 ∧ Ev (fun k => code_Compile.f k n.f0 n.f1 n.f2) (if hOk c = true then (c, 0) else ([], 5))) := by
  by_cases h0 : z = 0
  · subst h0
    refine .inl ⟨rfl, ?_⟩
    unfold code_Compile.f tree_Check.f
    have hck : Ev (fun k => (tree_Size.f k n.f0 n.f1 n.f2).bind fun bt => if bt.2 = true then some (0 : Int) else some 1) 1 := by
      refine Ev.bind hz.code ?_
      simp only [Nat.lt_irrefl, decide_false, Bool.false_eq_true, if_false]
      exact Ev.now _
    refine Ev.bind hck ?_
    simp only [if_neg (show ¬ (1 : Int) = 0 by decide)]
    exact Ev.now _
  · refine .inr ⟨by omega, fun key time v => ?_⟩
    obtain ⟨c, r, h1, h2, h3⟩ := (hz.good (by omega)).2 key time v 0
    have hs := hz.small
    refine ⟨c, r, h1, by omega, ?_⟩
    have ht := of_treeC h1 1100 (by omega) [] rfl (by simp; omega)
    rw [List.nil_append] at ht
    unfold code_Compile.f tree_Check.f
    have hck : Ev (fun k => (tree_Size.f k n.f0 n.f1 n.f2).bind fun bt => if bt.2 = true then some (0 : Int) else some 1) 0 := by
      refine Ev.bind hz.code ?_
      simp only [decide_eq_true (show 0 < z by omega), if_true]
      exact Ev.now _
    refine Ev.bind hck ?_
    have hn : (⟨n.f0, n.f1, n.f2⟩ : S35) = n := by cases n; rfl
    simp only [if_true, hn, ht, Option.bind_some]
    cases hO : hOk c with
    | true => simp only [if_true]; exact Ev.now _
    | false => simp only [Bool.false_eq_true, if_false]; exact Ev.now _

end Go.Proofs.Ytekbcfgcojecmaa.P
