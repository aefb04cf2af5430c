/- The pure statements of LexCuts, LexOrder and LexPlaces. No condition. -/
import Derived.Test.YtdbccnhdblljbaaDoorLexRef
import Derived.Test.YtdbccnhdblljbaaDoorF3
import Derived.Test.YtdbccnhdblljbaaDoorF4
import Derived.Test.YtdbccnhdblljbaaDoorF7
namespace Go.Proofs.YtdbccnhdblljbaaDoor.P
open Go.RowKit Go.Proofs.YtdbccnhdblljbaaDoorW.PrintWords Go.Proofs.YtdbccnhdblljbaaDoorW.PrintLast Go.Proofs.YtdbccnhdblljbaaDoorW.PrintMore
set_option linter.unusedVariables false
set_option linter.unusedSimpArgs false

theorem awake20 : Ev (fun k => headgatelaw20_awake.f k) true := Ev.of (headgatelaw20_awake.mono) (k := 40) (by decide +kernel)
theorem same_refl (l : List Tok) (hl : l.length ≤ 9223372036854775806) : Ev (fun k => headgateref20_Same.f k l l) true := by
  have loop : ∀ (n i : Nat), l.length - i ≤ n → i ≤ l.length → Ev (fun k => headgateref20_Same.l0 k l l (i : Int)) true := by
    intro n
    induction n with
    | zero =>
      intro i hn hi
      refine Ev.step (fun k => by rw [headgateref20_Same.l0]) ?_
      simp only [if_neg (show ¬ (i : Int) < (l.length : Int) by omega)]
      exact Ev.now _
    | succ n ih =>
      intro i hn hi
      refine Ev.step (fun k => by rw [headgateref20_Same.l0]) ?_
      by_cases hlt : i < l.length
      · simp only [if_pos (show (i : Int) < (l.length : Int) by omega), if_pos (show (0 : Int) ≤ (i : Int) by omega), beq_self_eq_true, Bool.not_true, Bool.or_self, Bool.false_eq_true, if_false]
        rw [wrap_id (by omega) (by omega), show (i : Int) + 1 = ((i + 1 : Nat) : Int) by omega]
        exact ih (i + 1) (by omega) (by omega)
      · simp only [if_neg (show ¬ (i : Int) < (l.length : Int) by omega)]
        exact Ev.now _
  unfold headgateref20_Same.f
  simp only [if_true]
  exact loop l.length 0 (by omega) (by omega)
theorem told_len (l : List UInt8) : ∀ off, ∀ ts, cutB off l = .ok ts → ts.length ≤ l.length := by
  generalize hn : l.length = n
  induction n using Nat.strongRecOn generalizing l with
  | _ n ih =>
  intro off ts h
  cases l with
  | nil => rw [cutB_nil] at h; cases h; simp
  | cons c r =>
    rw [cutB_cons] at h
    simp only [List.length_cons] at hn
    cases hi : itemB c r with
    | skip m =>
      rw [hi] at h
      have := ih (r.drop m).length (by simp; omega) (r.drop m) rfl _ _ h
      simp at this; omega
    | tok k v s m =>
      rw [hi] at h
      simp only at h
      cases hc : cutB (off + m + 1) (r.drop m) with
      | error e => rw [hc] at h; cases h
      | ok ts' =>
        rw [hc] at h
        cases h
        have := ih (r.drop m).length (by simp; omega) (r.drop m) rfl _ _ hc
        simp at this ⊢; omega
    | bad e => rw [hi] at h; cases h
theorem cut_err (l : List UInt8) : ∀ off p e, cutB off l = .error (p, e) → e ≠ 0 := by
  generalize hn : l.length = n
  induction n using Nat.strongRecOn generalizing l with
  | _ n ih =>
  intro off p e h
  cases l with
  | nil => rw [cutB_nil] at h; cases h
  | cons c r =>
    rw [cutB_cons] at h
    simp only [List.length_cons] at hn
    cases hi : itemB c r with
    | skip m =>
      rw [hi] at h
      exact ih (r.drop m).length (by simp; omega) (r.drop m) rfl _ _ _ h
    | tok k v s m =>
      rw [hi] at h
      simp only at h
      cases hc : cutB (off + m + 1) (r.drop m) with
      | error x =>
        rw [hc] at h
        cases h
        exact ih (r.drop m).length (by simp; omega) (r.drop m) rfl _ _ _ hc
      | ok ts' => rw [hc] at h; cases h
    | bad x =>
      rw [hi] at h
      cases h
      unfold itemB at hi
      repeat' split at hi
      all_goals first | cases hi | skip
      all_goals decide
/-- What the two Cuts tell of any text. -/
def cutT (s : ByteArray) : List Tok × Int × Int := if s.size > 4096 then ([], 0, 1) else told [] (cutB 0 (bl s))
theorem cutT_len (s : ByteArray) : (cutT s).1.length ≤ 4096 := by
  unfold cutT
  split
  · simp
  · cases h : cutB 0 (bl s) with
    | error e => simp [told]
    | ok ts => have := told_len _ _ _ h; rw [bl_length] at this; simp [told]; omega
theorem LexCuts : headgatelaw20_LexCuts.Pure := by
  intro s hs
  apply Ev.rounds
  unfold headgatelaw20_LexCuts.f
  have hj : ∀ x : ByteArray, Ev (fun k => headgatelaw20_LexCuts.j0 k x) true := by
    intro x
    refine Ev.step (fun k => by rw [headgatelaw20_LexCuts.j0]) ?_
    refine Ev.bind (prog_cut x) ?_
    refine Ev.bind (ref_cut x) ?_
    have hl : (cutT x).1.length ≤ 9223372036854775806 := by have := cutT_len x; omega
    refine Ev.bind (same_refl (cutT x).1 hl) ?_
    simp only [if_true]
    refine Ev.bind awake20 ?_
    exact Ev.now _
  by_cases h : (s.size : Int) > 6000
  · simp only [if_pos h, if_pos (show (6000 : Int) ≤ (s.size : Int) by omega)]
    exact hj _
  · simp only [if_neg h]
    exact hj _
end Go.Proofs.YtdbccnhdblljbaaDoor.P
