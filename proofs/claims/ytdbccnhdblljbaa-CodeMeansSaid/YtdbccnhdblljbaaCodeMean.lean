/- A tree's code leaves the tree's value, whatever the record: the plain law and the walk. No condition. -/
import Derived.Test.YtdbccnhdblljbaaCodeSize
import Derived.Test.YtdbccnhdblljbaaF6
import Derived.Test.YtdbccnhdblljbaaF20
namespace Go.Proofs.Ytdbccnhdblljbaa.P
open Go.RowKit Go.Proofs.YtdbccnhdblljbaaW.PrintWords Go.Proofs.YtdbccnhdblljbaaW.PrintLast Go.Proofs.YtdbccnhdblljbaaW.PrintMore
set_option linter.unusedVariables false
set_option linter.unusedSimpArgs false
theorem rapply (op a b : Int) : headgateref21_Apply.f op a b = some (apS op a b) := rfl
theorem value_ev {key time v : Int} {n : S35} {at_ : Nat} {c : List S54} {r : Int} (h : Of apS key time v n at_ c r) : Ev (fun k => headgateref21_Value.f k n.f0 n.f1 n.f2 key time v) r := by
  induction h with
  | number n at_ h1 h2 =>
    refine Ev.step (fun k => by rw [headgateref21_Value.f]) ?_
    simp only [if_pos h2]
    exact Ev.now _
  | key n at_ h1 h2 =>
    refine Ev.step (fun k => by rw [headgateref21_Value.f]) ?_
    simp only [if_neg (show ¬ n.f0 = 1 by omega), if_pos h2]
    exact Ev.now _
  | time n at_ h1 h2 =>
    refine Ev.step (fun k => by rw [headgateref21_Value.f]) ?_
    simp only [if_neg (show ¬ n.f0 = 1 by omega), if_neg (show ¬ n.f0 = 2 by omega), if_pos h2]
    exact Ev.now _
  | value n at_ h1 h2 =>
    refine Ev.step (fun k => by rw [headgateref21_Value.f]) ?_
    simp only [if_neg (show ¬ n.f0 = 1 by omega), if_neg (show ¬ n.f0 = 2 by omega), if_neg (show ¬ n.f0 = 3 by omega), if_pos h2]
    exact Ev.now _
  | if3 n x y z at_ a b c r0 r1 r2 h1 h2 _ _ _ i0 i1 i2 =>
    rw [h1]
    have hl : (([x, y, z] : List S35).length : Int) = 3 := rfl
    refine Ev.step (fun k => by rw [headgateref21_Value.f]) ?_
    simp only [hl, if_neg (show ¬ n.f0 = 1 by omega), if_neg (show ¬ n.f0 = 2 by omega), if_neg (show ¬ n.f0 = 3 by omega), if_neg (show ¬ n.f0 = 4 by omega), if_pos h2, if_pos (show (0 : Int) < 3 by decide), if_pos (show (1 : Int) < 3 by decide), if_pos (show (2 : Int) < 3 by decide), show rd_T35 [x, y, z] 0 = x from rfl, show rd_T35 [x, y, z] 1 = y from rfl, show rd_T35 [x, y, z] 2 = z from rfl]
    refine Ev.bind i0 ?_
    by_cases c0 : r0 = 0
    · simp only [if_pos c0, if_neg (show ¬ r0 ≠ 0 from fun q => q c0)]
      refine Ev.bind i2 ?_
      exact Ev.now _
    · simp only [if_neg c0, if_pos (show r0 ≠ 0 from c0)]
      refine Ev.bind i1 ?_
      exact Ev.now _
  | and2 n x y at_ a b r0 r1 h1 h2 _ _ i0 i1 =>
    rw [h1]
    have hl : (([x, y] : List S35).length : Int) = 2 := rfl
    refine Ev.step (fun k => by rw [headgateref21_Value.f]) ?_
    simp only [hl, if_neg (show ¬ n.f0 = 1 by omega), if_neg (show ¬ n.f0 = 2 by omega), if_neg (show ¬ n.f0 = 3 by omega), if_neg (show ¬ n.f0 = 4 by omega), if_neg (show ¬ n.f0 = 22 by omega), if_pos (show (0 : Int) < 2 by decide), if_pos (show (1 : Int) < 2 by decide), if_neg (show ¬ (2 : Int) = 1 by decide), show rd_T35 [x, y] 0 = x from rfl, show rd_T35 [x, y] 1 = y from rfl]
    refine Ev.bind i0 ?_
    refine Ev.bind i1 ?_
    simp only [rapply, Option.bind_some, h2]
    exact Ev.now _
  | or2 n x y at_ a b r0 r1 h1 h2 _ _ i0 i1 =>
    rw [h1]
    have hl : (([x, y] : List S35).length : Int) = 2 := rfl
    refine Ev.step (fun k => by rw [headgateref21_Value.f]) ?_
    simp only [hl, if_neg (show ¬ n.f0 = 1 by omega), if_neg (show ¬ n.f0 = 2 by omega), if_neg (show ¬ n.f0 = 3 by omega), if_neg (show ¬ n.f0 = 4 by omega), if_neg (show ¬ n.f0 = 22 by omega), if_pos (show (0 : Int) < 2 by decide), if_pos (show (1 : Int) < 2 by decide), if_neg (show ¬ (2 : Int) = 1 by decide), show rd_T35 [x, y] 0 = x from rfl, show rd_T35 [x, y] 1 = y from rfl]
    refine Ev.bind i0 ?_
    refine Ev.bind i1 ?_
    simp only [rapply, Option.bind_some, h2]
    exact Ev.now _
  | one n x at_ a r0 h1 h2 _ i0 =>
    rw [h1]
    have hl : (([x] : List S35).length : Int) = 1 := rfl
    refine Ev.step (fun k => by rw [headgateref21_Value.f]) ?_
    simp only [hl, if_neg (show ¬ n.f0 = 1 by omega), if_neg (show ¬ n.f0 = 2 by omega), if_neg (show ¬ n.f0 = 3 by omega), if_neg (show ¬ n.f0 = 4 by omega), if_neg (show ¬ n.f0 = 22 by omega), if_pos (show (0 : Int) < 1 by decide), if_pos (show (1 : Int) = 1 from rfl), show rd_T35 [x] 0 = x from rfl]
    refine Ev.bind i0 ?_
    simp only [rapply, Option.bind_some]
    exact Ev.now _
  | two n x y at_ a b r0 r1 h1 h2 _ _ i0 i1 =>
    rw [h1]
    have hl : (([x, y] : List S35).length : Int) = 2 := rfl
    refine Ev.step (fun k => by rw [headgateref21_Value.f]) ?_
    simp only [hl, if_neg (show ¬ n.f0 = 1 by omega), if_neg (show ¬ n.f0 = 2 by omega), if_neg (show ¬ n.f0 = 3 by omega), if_neg (show ¬ n.f0 = 4 by omega), if_neg (show ¬ n.f0 = 22 by omega), if_pos (show (0 : Int) < 2 by decide), if_pos (show (1 : Int) < 2 by decide), if_neg (show ¬ (2 : Int) = 1 by decide), show rd_T35 [x, y] 0 = x from rfl, show rd_T35 [x, y] 1 = y from rfl]
    refine Ev.bind i0 ?_
    refine Ev.bind i1 ?_
    simp only [rapply, Option.bind_some]
    exact Ev.now _
/-- A tree's code leaves the tree's value. -/
theorem codeMeans_plain (n : S35) (key time v : Int) : ∃ k, headgatelaw22_CodeMeans.f k n.f0 n.f1 n.f2 key time v = some true := by
  obtain ⟨z, hz⟩ := sizes n
  have key : Ev (fun k => headgatelaw22_CodeMeans.f k n.f0 n.f1 n.f2 key time v) true := by
    unfold headgatelaw22_CodeMeans.f
    rcases compile_ev n z hz with ⟨rfl, h⟩ | ⟨h0, h⟩
    · refine Ev.bind h ?_
      simp only [if_neg (show ¬ (1 : Int) = 0 by decide), List.length_nil, if_pos (show ((0 : Nat) : Int) = 0 from rfl), headgatelaw22_awake.f, Option.bind_some]
      exact Ev.now _
    · obtain ⟨c, r, h1, h2, h3⟩ := h key time v
      refine Ev.bind h3 ?_
      cases hO : hOk c with
      | false =>
        simp only [Bool.false_eq_true, if_false, if_neg (show ¬ (5 : Int) = 0 by decide), List.length_nil, if_pos (show ((0 : Nat) : Int) = 0 from rfl), headgatelaw22_awake.f, Option.bind_some]
        exact Ev.now _
      | true =>
        have hrun : code_Run.f c key time v = some (r, 0) := by
          unfold code_Run.f
          rw [hO, if_pos rfl, run_of h1 hO]
          rfl
        simp only [if_true, hrun, Option.bind_some]
        refine Ev.bind hz.doc ?_
        simp only [if_pos (show (z : Int) > 0 by omega)]
        refine Ev.bind (value_ev h1) ?_
        simp only [if_true, headgatelaw22_awake.f, Option.bind_some]
        exact Ev.now _
  exact key.rounds
theorem codeMeans_walk (x y : Int) (A : Option Addr) (c : Nat) (l : List S35) (key time v : Int) (w : World) (hr : Kd.C k35 w A l.length l) (hc : l.length ≤ c) :
    Calls Try.prog 6 #[.agg #[.int .i64 x, .int .i64 y, .slice A l.length c], .int .i64 key, .int .i64 time, .int .i64 v] w fun e w' => e = .returned (.bool true) ∧ Below w.heap.size w w' := by
  obtain ⟨k, h⟩ := codeMeans_plain ⟨x, y, l⟩ key time v
  exact headgatelaw22_CodeMeans.calls k x y A c l key time v true w hr hc h
end Go.Proofs.Ytdbccnhdblljbaa.P
