/- A tree that is handed in, opened. No condition. -/
import Derived.Test.YtekbcfgcojecmaaCodeOpen
import Derived.WideShapes
namespace Go.Proofs.Ytekbcfgcojecmaa.P
open Go.RowKit Go.Proofs.YtekbcfgcojecmaaW.PrintWords Go.Proofs.YtekbcfgcojecmaaW.PrintLast Go.Proofs.YtekbcfgcojecmaaW.PrintMore
open Go.ChangeShapes Go.WideShapes
set_option linter.unusedVariables false
set_option linter.unusedSimpArgs false
section
variable {H : Type} {enc : TypeId × Value → H} {w : World} {base : Nat} {spare : Nat → Bool} {held : Bool}
instance : Inhabited S35 := ⟨z35⟩
theorem open_node : ∀ (fuel : Nat) (cs : List Value) (y : DataW H × List MemPlace), DataW.trod enc Try.prog w base spare held fuel 35 cs = some y → ∃ p : S35, k35.K w p cs := by
  intro fuel
  induction fuel using Nat.strongRecOn with
  | _ fuel ih =>
    intro cs y h
    obtain ⟨xs, m, hm, _, hlen, hxl, hf⟩ := DataW.trod_struct (Try.underlying35) h
    have hl : cs.length = 3 := hlen
    obtain ⟨c0, c1, c2, rfl⟩ : ∃ c0 c1 c2, cs = [c0, c1, c2] := by
      match cs, hl with
      | [a, b, c], _ => exact ⟨a, b, c, rfl⟩
    have hx : xs.length = 3 := hxl
    have f0 := hf 0 _ rfl
    have f1 := hf 1 _ rfl
    have f2 := hf 2 _ rfl
    rw [List.getElem?_eq_getElem (by omega)] at f0 f1 f2
    obtain ⟨x0, e0, _, _⟩ := DataW.trod_int (k := .i64) (by kernel_rfl) f0
    obtain ⟨x1, e1, _, _⟩ := DataW.trod_int (k := .i64) (by kernel_rfl) f1
    have e0' : [c0] = [Value.int .i64 x0] := e0
    have e1' : [c1] = [Value.int .i64 x1] := e1
    injection e0' with e0' _
    injection e1' with e1' _
    subst e0' e1'
    have f2' : DataW.trod enc Try.prog w base spare held m 33 [c2] = some xs[2] := f2
    have hsl : ∃ A len cap, c2 = .slice A len cap := by
      rcases DataW.trod_slice Try.underlying33 f2' with ⟨e, _⟩ | ⟨b, len', cap', elems, rest, n, _, e, _⟩
      · injection e with e _; exact ⟨_, _, _, e⟩
      · injection e with e _; exact ⟨_, _, _, e⟩
    obtain ⟨A, len, cap, rfl⟩ := hsl
    obtain ⟨l, rfl, hlc, _, hC⟩ := open_row k35 (Try.underlying33) rfl (fun n cs y hn h => ih n (by omega) cs y h) f2'
    exact ⟨⟨x0, x1, l⟩, k35_mk w ⟨x0, x1, l⟩ hlc hC⟩
theorem open_node_arg {W : World} {r : Reach} {b2 : Nat} {v : Value} {d : DataW H} {ps : List MemPlace} (hv : Value.okWide Try.prog W r b2 35 v) (h : DataW.Trod enc Try.prog W base spare held 35 v d ps) :
    ∃ (x y : Int) (A : Option Addr) (c : Nat) (l : List S35), v = .agg #[.int .i64 x, .int .i64 y, .slice A l.length c] ∧ l.length ≤ c ∧ Kd.C k35 W A l.length l := by
  obtain ⟨cs, rfl, _⟩ := okWide_struct Try.underlying35 hv
  obtain ⟨fuel, hf⟩ := h
  have hf' : DataW.trod enc Try.prog W base spare held fuel 35 cs.toList = some (d, ps) := hf
  obtain ⟨p, hp⟩ := open_node fuel _ _ hf'
  obtain ⟨A, c, e, hl, hC⟩ := k35_open hp
  refine ⟨p.f0, p.f1, A, c, p.f2, ?_, hl, hC⟩
  congr 1
  apply Array.toList_inj.1
  exact e
end
end Go.Proofs.Ytekbcfgcojecmaa.P
