import Derived.Test.YtekbcfgcojecmaaBetD
import Derived.Test.YtekbcfgcojecmaaCodeSize
namespace Go.Proofs.Ytekbcfgcojecmaa.P
open Go.RowKit Go.Proofs.YtekbcfgcojecmaaW.PrintWords Go.Proofs.YtekbcfgcojecmaaW.PrintLast Go.Proofs.YtekbcfgcojecmaaW.PrintMore
set_option linter.unusedVariables false
set_option linter.unusedSimpArgs false
/-- What Better leaves. -/
def betL (l : List S54) : List S54 := if hOk l = true then betterN 4096 l else []
def betE (l : List S54) : Int := if hOk l = true then 0 else 1
theorem betL_le (l : List S54) : (betL l).length ≤ l.length := by
  unfold betL
  split
  · rename_i h; exact (betterN_good 4096 l h).2.1
  · exact Nat.zero_le _
def BetPost (l : List S54) (w : World) (e : Ending) (w' : World) : Prop := ∃ A1 c1, e = .returned (.tuple #[.slice A1 (betL l).length c1, .int .i64 (betE l)]) ∧ Kd.R k54 54 w' w.heap.size (fun _ => True) (.slice A1 (betL l).length c1) (betL l) ∧ Below w.heap.size w w'
theorem bet_calls (A : Option Addr) (n c : Nat) (l : List S54) (w : World) (hn : n = l.length) (hr : Kd.C k54 w A n l) (hc : n ≤ c) : Calls Try.prog 21 #[.slice A n c] w (BetPost l w) := by
  subst hn
  cases h : hOk l with
  | true =>
    refine (betterAll_calls A c l w hr hc h keeps_ok).mono fun e w' ⟨v, h1, h2, h3⟩ => ?_
    obtain ⟨A1, c1, rfl⟩ := Kd.R_slice h2
    have e1 : betL l = betterN 4096 l := by unfold betL; rw [if_pos h]
    have e2 : betE l = 0 := by unfold betE; rw [if_pos h]
    unfold BetPost
    rw [e1, e2]
    exact ⟨A1, c1, h1, h2, h3⟩
  | false =>
    refine (betterBad_calls A c l w hr hc h).mono fun e w' ⟨h1, h3⟩ => ?_
    have e1 : betL l = [] := by unfold betL; rw [h]; rfl
    have e2 : betE l = 1 := by unfold betE; rw [h]; rfl
    unfold BetPost
    rw [e1, e2]
    exact ⟨none, 0, h1, Kd.R_nil _ _ _ _ _, h3⟩
def code_Better.f (l0 : List S54) : Option (List S54 × Int) := some (betL l0, betE l0)
theorem code_Better.calls (A0 : Option Addr) (c0 : Nat) (l0 : List (S54)) (r1 : List S54) (r2 : Int) (w : World) (hr0 : Kd.C k54 w A0 l0.length l0) (hc0 : l0.length ≤ c0) (h : code_Better.f l0 = some (r1, r2)) :
    Calls Try.prog 21 #[.slice A0 l0.length c0] w fun e w' => ∃ v0_ : Value, e = .returned (.tuple #[v0_, .int .i64 r2]) ∧ Kd.R k54 54 w' w.heap.size (fun _ => True) v0_ r1 ∧ Below w.heap.size w w' := by
  obtain ⟨rfl, rfl⟩ : betL l0 = r1 ∧ betE l0 = r2 := by simpa [code_Better.f] using h
  exact (bet_calls A0 l0.length c0 l0 w rfl hr0 hc0).mono fun e w' ⟨A1, c1, h1, h2, h3⟩ => ⟨_, h1, h2, h3⟩
/-- What better code leaves. -/
theorem bet_run {l : List S54} (h : hOk l = true) {key time v r : Int} (he : Ends apS l key time v 0 [] r) : code_Run.f (betL l) key time v = some (r, 0) := by
  have e1 : betL l = betterN 4096 l := by unfold betL; rw [if_pos h]
  have hg := betterN_good 4096 l h
  rw [e1]
  obtain ⟨H, g⟩ := good_of_hOk hg.1
  obtain ⟨r', h1, h2⟩ := ends_good g apS key time v
  obtain rfl := Ends.one (hg.2.2.1 key time v r he) h2
  unfold code_Run.f
  rw [if_pos hg.1, apC_eq, h1]
  rfl
end Go.Proofs.Ytekbcfgcojecmaa.P
