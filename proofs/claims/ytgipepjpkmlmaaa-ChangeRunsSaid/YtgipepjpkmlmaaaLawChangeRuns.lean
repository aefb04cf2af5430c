/- ChangeRuns: what the reference engine leaves of any records, not too many, noted as it goes on by its changes, some records at a time, is restored from these alone; the law answers true, always. -/
import Derived.Test.YtgipepjpkmlmaaaRows
import Derived.Test.YtgipepjpkmlmaaaWSized
import Derived.Test.YtgipepjpkmlmaaaQR1
import Derived.Test.YtgipepjpkmlmaaaQR2
import Derived.Test.YtgipepjpkmlmaaaQR3
import Derived.Test.YtgipepjpkmlmaaaQR4
import Derived.Test.YtgipepjpkmlmaaaQR5
import Derived.Test.YtgipepjpkmlmaaaQR6
import Derived.Test.YtgipepjpkmlmaaaQR7
import Derived.Test.YtgipepjpkmlmaaaQR8
import Derived.Test.YtgipepjpkmlmaaaQR9
import Derived.Test.YtgipepjpkmlmaaaQR10
import Derived.Test.YtgipepjpkmlmaaaQR11
import Derived.Test.YtgipepjpkmlmaaaQR12
import Derived.Test.YtgipepjpkmlmaaaQR13
import Derived.Test.YtgipepjpkmlmaaaQR14
import Derived.Test.YtgipepjpkmlmaaaQR15
import Derived.Test.YtgipepjpkmlmaaaQR16
import Derived.Test.YtgipepjpkmlmaaaQR17
import Derived.Test.YtgipepjpkmlmaaaQR18
import Derived.Test.YtgipepjpkmlmaaaQR19
import Derived.Test.YtgipepjpkmlmaaaQR20
import Derived.Test.YtgipepjpkmlmaaaQR21
import Derived.Test.YtgipepjpkmlmaaaQR22
import Derived.Test.YtgipepjpkmlmaaaQR23
import Derived.WalkKit
import Derived.ProofKit
import Derived.OpenShut
import Derived.ShutString
import Derived.ChangeOld
import Derived.Below
import Derived.SizedLaws
import Derived.Deep.DeepHandedRow
import Derived.Lib.LaidTab
namespace Go.Proofs.Ytgipepjpkmlmaaa.changeRuns
open Go.ChangeShapes Go.WideShapes Go.ChangeAt Go.RowKit
open Go.Proofs.YtgipepjpkmlmaaaW.PrintWords
open Go.ChangeMaps (open_string shut_string)
set_option linter.unusedVariables false
theorem own : ownKnob Try.prog.godebug = none := by kernel_rfl
theorem laidOut : laidOutB Try.prog = true := by kernel_rfl
noncomputable def laidWorld (os : Os) : World := World.holding Try.prog os ⟨#[], #[], []⟩
theorem reads (os : Os) {H : Type} (enc : TypeId × Value → H) : ∃ places, DataW.whole enc Try.prog ((laidWorld os).forCall (fun _ _ => 0) ⟨#[], #[Value.agg #[.int .i64 0, .int .i64 0, .int .i64 0], Value.slice none 0 0, Value.int .i64 0], []⟩).memory Try.f11.params.toList Rows.changeRunsSpec.vars false (#[Value.agg #[.int .i64 0, .int .i64 0, .int .i64 0], Value.slice none 0 0, Value.int .i64 0]).toList 8 = some ([.agg [.lit (.int .i64 0), .lit (.int .i64 0), .lit (.int .i64 0)], .nil, .lit (.int .i64 0)], [], places) :=
  ⟨[], by kernel_rfl⟩
set_option maxRecDepth 100000 in
theorem contract (H : Type) (enc : TypeId × Value → H) (W : World) (base : Nat) (args : Array Value) (ds gs : List (DataW H)) (before : List MemPlace)
    (hval0 : ∀ (j : Nat) t v, Try.f11.params[j]? = some t → args[j]? = some v → Value.okWide Try.prog W .any base t v)
    (hW : DataW.Whole enc Try.prog Try.f11.params.toList Rows.changeRunsSpec.vars false W args.toList ds gs before) :
    Calls Try.prog 11 args W fun e W' => ∃ v, e = .returned v ∧ Rows.changeRunsSpec.post enc Try.prog Try.f11 false true false false W args v W' := by
  have hval : ∀ (j : Nat) t v, Try.f11.params[j]? = some t → args[j]? = some v → Value.okWide Try.prog W .any base t v := hval0
  have hW' := hW
  obtain ⟨p, q, hA0, hV, rfl, hfz, hnd⟩ := hW
  have hA : DataW.TrodAll enc Try.prog W 0 (fun _ => true) true Try.f11.params.toList args.toList ds p := hA0
  rw [Try.params11] at hA hval
  obtain ⟨v0, vs0, d0, ds0, p0, q0, hargs, rfl, rfl, h0, r0⟩ := trodAll_cons hA
  obtain ⟨v1, vs1, d1, ds1, p1, q1, rfl, rfl, rfl, h1, r1⟩ := trodAll_cons r0
  obtain ⟨v2, vs2, d2, ds2, p2, q2, rfl, rfl, rfl, h2, r2⟩ := trodAll_cons r1
  obtain ⟨rfl, rfl, rfl⟩ := trodAll_nil r2
  obtain rfl : args = #[v0, v1, v2] := by cases args; simp_all
  obtain ⟨rfl, rfl⟩ := trodVars_none hV
  have k0 := h0
  have lt0 : ∀ x ∈ p0, x.block < W.heap.size := by obtain ⟨m, hm⟩ := k0; exact DataW.trod_lt m _ _ _ hm
  obtain ⟨g0, rfl⟩ := P.open_grid_arg (hval 0 23 v0 rfl rfl) h0
  obtain ⟨a1, len1, cap1, rfl⟩ := okWide_slice Try.underlying24 (hval 1 24 v1 rfl rfl)
  have k1 := h1
  have lt1 : ∀ x ∈ p1, x.block < W.heap.size := by obtain ⟨m, hm⟩ := k1; exact DataW.trod_lt m _ _ _ hm
  obtain ⟨l1, e1, hc1, _, hr1⟩ : ∃ l : List P.S50, l.length = len1 ∧ len1 ≤ cap1 ∧ cap1 ≤ maxLen ∧ Kd.C P.k50 W a1 len1 l := by obtain ⟨fuel, hf⟩ := h1; exact P.open_recs hf
  subst e1
  obtain ⟨a2, rfl, rfl, rfl, w2⟩ := open_int Try.underlying3 (hval 2 3 v2 rfl rfl) h2
  clear hA0 hval0
  refine (P.changeRuns_walk g0 a1 cap1 l1 a2 W hr1 hc1 w2).mono fun e W' ⟨he, bel⟩ => ?_
  subst he
  exact ⟨_, rfl, _, _, _, [], _, [], hW', trodAll_mk1 (shut_bool Try.underlying4 _), (trodAll_cons_mk (Below.trod laidOut (by kernel_rfl) (of_decide_eq_true (by kernel_rfl)) k0 bel lt0) (trodAll_cons_mk (Below.trod laidOut (by kernel_rfl) (of_decide_eq_true (by kernel_rfl)) k1 bel lt1) (trodAll_cons_mk (shut_int Try.underlying3 w2) trodAll_mk0))), rfl, bel.frame _, fun h => by cases h⟩
set_option maxRecDepth 100000 in
theorem lifted (os : Os) (started : os.Started) (H : Type) (enc : TypeId × Value → H) (F : Stop.Interp) :
    ReturnsInHanded {} Try.checked os 11 .any ((OpenSpec.ofChange Rows.changeRunsSpec).preRow enc Try.prog Try.f11 Rows.changeRunsRow.domain false Rows.changeRunsRow.laid) (((OpenSpec.ofChange Rows.changeRunsSpec).at F).post enc Try.prog Try.f11 false true false false) := by
  obtain ⟨places, hx⟩ := reads os enc
  refine returnsInHanded_of_row (C := Try.checked) (s := OpenSpec.ofChange Rows.changeRunsSpec) own started (by kernel_rfl) Try.func11
    (witness_row_at (enc := enc) (C := Try.checked) false (laidWorld os) #[Value.agg #[.int .i64 0, .int .i64 0, .int .i64 0], Value.slice none 0 0, Value.int .i64 0] rfl (by kernel_rfl) (by kernel_rfl) (by kernel_rfl)
      (OpenSpec.preRow_of_cond 8 hx (by kernel_rfl) (fun k hk => by cases hk) (by kernel_rfl) (laidMet_nil _ _))) ?_
  intro W base args ds gs before hval hW _ _ _ _ _ _
  exact contract H enc W base args ds gs before hval hW
theorem said : Rows.ChangeRunsSaid :=
  OpenClaim.holds_of_cond 11 Try.f11 rfl rfl rfl rfl rfl rfl rfl ⟨rfl, rfl, rfl, rfl, rfl⟩ rfl rfl rfl rfl rfl (by kernel_rfl) Try.func11 (by kernel_rfl)
    (of_decide_eq_true (by kernel_rfl)) (by unfold Func.isWrapper; first | (rw [if_pos (by decide +kernel)]; kernel_rfl) | (rw [if_neg (by decide +kernel)]; exact ⟨rfl, rfl⟩))
    (fun os started H enc _ F => by rw [OpenClaim.pre_eq_preRow]; exact lifted os started H enc F)
end Go.Proofs.Ytgipepjpkmlmaaa.changeRuns
namespace Go.Proofs.Ytgipepjpkmlmaaa
/-- The statement, under a short name, for the claim. -/
theorem changeRuns_holds : Rows.ChangeRunsSaid := changeRuns.said
#print axioms changeRuns_holds
end Go.Proofs.Ytgipepjpkmlmaaa
