/- Any tree has the code that the document says, or may not be: the plain law and the walk. No condition. -/
import Derived.Test.YtdbccnhdblljbaaCodeSize
import Derived.Test.YtdbccnhdblljbaaCodeMay
import Derived.Test.YtdbccnhdblljbaaF5
import Derived.Test.YtdbccnhdblljbaaF17
import Derived.Test.YtdbccnhdblljbaaF18
import Derived.Test.YtdbccnhdblljbaaF32
namespace Go.Proofs.Ytdbccnhdblljbaa.P
open Go.RowKit Go.Proofs.YtdbccnhdblljbaaW.PrintWords Go.Proofs.YtdbccnhdblljbaaW.PrintLast Go.Proofs.YtdbccnhdblljbaaW.PrintMore
set_option linter.unusedVariables false
set_option linter.unusedSimpArgs false
/-- The same code is the same. -/
theorem same_ev (l : List S54) (hl : l.length ≤ 1000000) : Ev (fun k => headgateref22_Same.f k l l) true := by
  have loop : ∀ (m i : Nat), i + m = l.length → Ev (fun k => headgateref22_Same.l0 k l l (i : Int)) true := by
    intro m
    induction m with
    | zero =>
      intro i hi
      refine Ev.step (fun k => by rw [headgateref22_Same.l0]) ?_
      simp only [if_neg (show ¬ (i : Int) < (l.length : Int) by omega)]
      exact Ev.now _
    | succ m ih =>
      intro i hi
      refine Ev.step (fun k => by rw [headgateref22_Same.l0]) ?_
      simp only [if_pos (show (i : Int) < (l.length : Int) by omega), if_pos (show (0 : Int) ≤ (i : Int) by omega), beq_self_eq_true, Bool.not_true, Bool.or_self, Bool.false_eq_true, if_false]
      rw [show wrap64 ((i : Int) + 1) = ((i + 1 : Nat) : Int) by rw [wid2 (by omega) (by omega)]; omega]
      exact ih (i + 1) (by omega)
  unfold headgateref22_Same.f
  simp only [if_true]
  exact loop l.length 0 (by omega)
theorem of_ev {ap : Int → Int → Int → Int} {key time v : Int} {n : S35} {at_ : Nat} {c : List S54} {r : Int} (h : Of ap key time v n at_ c r) : at_ + c.length ≤ 1000000 → Ev (fun k => headgateref22_of.f k n.f0 n.f1 n.f2 (at_ : Int)) c := by
  have leaf : ∀ (n : S35) (at_ : Nat), n.f2 = [] → Ev (fun k => headgateref22_of.f k n.f0 n.f1 n.f2 (at_ : Int)) [⟨n.f0, n.f1⟩] := by
    intro n at_ h1
    rw [h1]
    refine Ev.step (fun k => by rw [headgateref22_of.f]) ?_
    simp only [List.length_nil, if_pos (show ((0 : Nat) : Int) = 0 from rfl)]
    exact Ev.now _
  induction h with
  | number n at_ h1 h2 => exact fun _ => leaf n at_ h1
  | key n at_ h1 h2 => exact fun _ => leaf n at_ h1
  | time n at_ h1 h2 => exact fun _ => leaf n at_ h1
  | value n at_ h1 h2 => exact fun _ => leaf n at_ h1
  | if3 n x y z at_ a b c r0 r1 r2 h1 h2 _ _ _ i0 i1 i2 =>
    intro hb
    simp only [List.length_append, List.length_cons, List.length_nil] at hb
    rw [h1, h2]
    have hl : (([x, y, z] : List S35).length : Int) = 3 := rfl
    refine Ev.step (fun k => by rw [headgateref22_of.f]) ?_
    simp only [hl, if_neg (show ¬ (3 : Int) = 0 by decide), if_pos (show (0 : Int) < 3 by decide), if_pos (show (1 : Int) < 3 by decide), if_pos (show (2 : Int) < 3 by decide), if_pos (show (22 : Int) = 22 from rfl), show rd_T35 [x, y, z] 0 = x from rfl, show rd_T35 [x, y, z] 1 = y from rfl, show rd_T35 [x, y, z] 2 = z from rfl]
    refine Ev.bind (i0 (by omega)) ?_
    simp only [show wrap64 (wrap64 ((at_ : Int) + (a.length : Int)) + 1) = ((at_ + a.length + 1 : Nat) : Int) by unfold wrap64; omega]
    refine Ev.bind (i1 (by omega)) ?_
    simp only [show wrap64 (wrap64 (wrap64 ((at_ : Int) + (a.length : Int)) + (b.length : Int)) + 2) = ((at_ + a.length + b.length + 2 : Nat) : Int) by unfold wrap64; omega]
    refine Ev.bind (i2 (by omega)) ?_
    simp only [show wrap64 (wrap64 (wrap64 (wrap64 ((at_ : Int) + (a.length : Int)) + (b.length : Int)) + (c.length : Int)) + 2) = ((at_ + a.length + b.length + c.length + 2 : Nat) : Int) by unfold wrap64; omega, Option.bind_some, List.length_append, List.length_cons, List.length_nil, if_pos (show a.length < 8796093022208 by omega), if_pos (show a.length + (0 + 1) + b.length < 8796093022208 by omega), if_pos (show a.length + (0 + 1) + b.length + (0 + 1) + c.length < 8796093022208 by omega)]
    exact Ev.now _
  | and2 n x y at_ a b r0 r1 h1 h2 _ _ i0 i1 =>
    intro hb
    simp only [List.length_append, List.length_cons, List.length_nil] at hb
    rw [h1, h2]
    have hl : (([x, y] : List S35).length : Int) = 2 := rfl
    refine Ev.step (fun k => by rw [headgateref22_of.f]) ?_
    simp only [hl, if_neg (show ¬ (2 : Int) = 0 by decide), if_pos (show (0 : Int) < 2 by decide), if_pos (show (1 : Int) < 2 by decide), if_neg (show ¬ (18 : Int) = 22 by decide), if_pos (show (18 : Int) = 18 from rfl), show rd_T35 [x, y] 0 = x from rfl, show rd_T35 [x, y] 1 = y from rfl]
    refine Ev.bind (i0 (by omega)) ?_
    simp only [show wrap64 (wrap64 ((at_ : Int) + (a.length : Int)) + 1) = ((at_ + a.length + 1 : Nat) : Int) by unfold wrap64; omega]
    refine Ev.bind (i1 (by omega)) ?_
    simp only [show wrap64 (wrap64 (wrap64 ((at_ : Int) + (a.length : Int)) + (b.length : Int)) + 3) = ((at_ + a.length + b.length + 3 : Nat) : Int) by unfold wrap64; omega, show wrap64 (((at_ + a.length + b.length + 3 : Nat) : Int) + 1) = ((at_ + a.length + b.length + 4 : Nat) : Int) by unfold wrap64; omega, Option.bind_some, List.length_append, List.length_cons, List.length_nil, if_pos (show a.length < 8796093022208 by omega), if_pos (show a.length + (0 + 1) + b.length < 8796093022208 by omega), if_pos (show a.length + (0 + 1) + b.length + (0 + 1) < 8796093022208 by omega), if_pos (show a.length + (0 + 1) + b.length + (0 + 1) + (0 + 1) < 8796093022208 by omega)]
    exact Ev.now _
  | or2 n x y at_ a b r0 r1 h1 h2 _ _ i0 i1 =>
    intro hb
    simp only [List.length_append, List.length_cons, List.length_nil] at hb
    rw [h1, h2]
    have hl : (([x, y] : List S35).length : Int) = 2 := rfl
    refine Ev.step (fun k => by rw [headgateref22_of.f]) ?_
    simp only [hl, if_neg (show ¬ (2 : Int) = 0 by decide), if_pos (show (0 : Int) < 2 by decide), if_pos (show (1 : Int) < 2 by decide), if_neg (show ¬ (19 : Int) = 22 by decide), if_neg (show ¬ (19 : Int) = 18 by decide), if_pos (show (19 : Int) = 19 from rfl), show rd_T35 [x, y] 0 = x from rfl, show rd_T35 [x, y] 1 = y from rfl]
    refine Ev.bind (i0 (by omega)) ?_
    simp only [show wrap64 (wrap64 ((at_ : Int) + (a.length : Int)) + 3) = ((at_ + a.length + 3 : Nat) : Int) by unfold wrap64; omega]
    refine Ev.bind (i1 (by omega)) ?_
    simp only [show wrap64 (wrap64 (((at_ + a.length + 3 : Nat) : Int) + (b.length : Int)) + 1) = ((at_ + a.length + b.length + 4 : Nat) : Int) by unfold wrap64; omega, Option.bind_some, List.length_append, List.length_cons, List.length_nil, if_pos (show a.length < 8796093022208 by omega), if_pos (show a.length + (0 + 1) < 8796093022208 by omega), if_pos (show a.length + (0 + 1) + (0 + 1) < 8796093022208 by omega), if_pos (show a.length + (0 + 1) + (0 + 1) + (0 + 1) + b.length < 8796093022208 by omega)]
    exact Ev.now _
  | one n x at_ a r0 h1 h2 _ i0 =>
    intro hb
    simp only [List.length_append, List.length_cons, List.length_nil] at hb
    rw [h1]
    have hl : (([x] : List S35).length : Int) = 1 := rfl
    refine Ev.step (fun k => by rw [headgateref22_of.f]) ?_
    simp only [hl, if_neg (show ¬ (1 : Int) = 0 by decide), if_pos (show (0 : Int) < 1 by decide), if_neg (show ¬ n.f0 = 22 by omega), if_neg (show ¬ n.f0 = 18 by omega), if_neg (show ¬ n.f0 = 19 by omega), if_neg (show ¬ (1 : Int) = 2 by decide), show rd_T35 [x] 0 = x from rfl]
    refine Ev.bind (i0 (by omega)) ?_
    simp only [if_pos (show a.length < 8796093022208 by omega)]
    exact Ev.now _
  | two n x y at_ a b r0 r1 h1 h2 _ _ i0 i1 =>
    intro hb
    simp only [List.length_append, List.length_cons, List.length_nil] at hb
    rw [h1]
    have hl : (([x, y] : List S35).length : Int) = 2 := rfl
    refine Ev.step (fun k => by rw [headgateref22_of.f]) ?_
    simp only [hl, if_neg (show ¬ (2 : Int) = 0 by decide), if_pos (show (0 : Int) < 2 by decide), if_pos (show (1 : Int) < 2 by decide), if_neg (show ¬ n.f0 = 22 by omega), if_neg (show ¬ n.f0 = 18 by omega), if_neg (show ¬ n.f0 = 19 by omega), if_pos (show (2 : Int) = 2 from rfl), show rd_T35 [x, y] 0 = x from rfl, show rd_T35 [x, y] 1 = y from rfl]
    refine Ev.bind (i0 (by omega)) ?_
    simp only [show wrap64 ((at_ : Int) + (a.length : Int)) = ((at_ + a.length : Nat) : Int) by unfold wrap64; omega]
    refine Ev.bind (i1 (by omega)) ?_
    simp only [Option.bind_some, List.length_append, if_pos (show a.length + b.length < 8796093022208 by omega)]
    exact Ev.now _
/-- A tree has the code that the document says. -/
theorem codeCompiles_plain (n : S35) : ∃ k, headgatelaw22_CodeCompiles.f k n.f0 n.f1 n.f2 = some true := by
  obtain ⟨z, hz⟩ := sizes n
  have key : Ev (fun k => headgatelaw22_CodeCompiles.f k n.f0 n.f1 n.f2) true := by
    unfold headgatelaw22_CodeCompiles.f headgateref22_Compile.f
    rcases compile_ev n z hz with ⟨rfl, h⟩ | ⟨h0, h⟩
    · refine Ev.bind h ?_
      have hc : Ev (fun k => (headgateref21_Size.f k n.f0 n.f1 n.f2).bind fun t => if t = 0 then some (([] : List S54), (1 : Int)) else ((headgateref22_of.f k n.f0 n.f1 n.f2 0).bind fun t321 => ((headgateref22_May.f k t321).bind fun t324 => (if t324 = true then (some (t321, 0)) else (some (([] : List (S54)), 5)))))) ([], 1) := by
        refine Ev.bind hz.doc ?_
        simp only [if_pos (show ((0 : Nat) : Int) = 0 from rfl)]
        exact Ev.now _
      refine Ev.bind hc ?_
      refine Ev.bind (same_ev [] (by simp)) ?_
      simp only [if_true, headgatelaw22_awake.f, Option.bind_some]
      exact Ev.now _
    · obtain ⟨c, r, h1, h2, h3⟩ := h 0 0 0
      refine Ev.bind h3 ?_
      have hof := of_ev h1 (by omega)
      have hc : Ev (fun k => (headgateref21_Size.f k n.f0 n.f1 n.f2).bind fun t => if t = 0 then some (([] : List S54), (1 : Int)) else ((headgateref22_of.f k n.f0 n.f1 n.f2 0).bind fun t321 => ((headgateref22_May.f k t321).bind fun t324 => (if t324 = true then (some (t321, 0)) else (some (([] : List (S54)), 5)))))) (if hOk c = true then (c, 0) else ([], 5)) := by
        refine Ev.bind hz.doc ?_
        simp only [if_neg (show ¬ (z : Int) = 0 by omega)]
        refine Ev.bind hof ?_
        refine Ev.bind (may_ev c) ?_
        cases hO : hOk c with
        | true => simp only [if_true]; exact Ev.now _
        | false => simp only [Bool.false_eq_true, if_false]; exact Ev.now _
      refine Ev.bind hc ?_
      refine Ev.bind (same_ev _ (by split <;> simp; omega)) ?_
      simp only [if_true, headgatelaw22_awake.f, Option.bind_some]
      exact Ev.now _
  exact key.rounds
theorem codeCompiles_walk (x y : Int) (A : Option Addr) (c : Nat) (l : List S35) (w : World) (hr : Kd.C k35 w A l.length l) (hc : l.length ≤ c) :
    Calls Try.prog 5 #[.agg #[.int .i64 x, .int .i64 y, .slice A l.length c]] w fun e w' => e = .returned (.bool true) ∧ Below w.heap.size w w' := by
  obtain ⟨k, h⟩ := codeCompiles_plain ⟨x, y, l⟩
  exact headgatelaw22_CodeCompiles.calls k x y A c l true w hr hc h
end Go.Proofs.Ytdbccnhdblljbaa.P
