import Derived.Test.YtgipepjpkmlmaaaE12
namespace Go.Proofs.Ytgipepjpkmlmaaa.P
open Go.RowKit Go.Proofs.YtgipepjpkmlmaaaW.PrintWords Go.Proofs.YtgipepjpkmlmaaaW.PrintLast Go.Proofs.YtgipepjpkmlmaaaW.PrintMore
set_option linter.unusedVariables false
set_option linter.unusedSimpArgs false

open Go.ChangeShapes Go.WideShapes
section
variable {H : Type} {enc : TypeId × Value → H} {w : World} {base : Nat} {spare : Nat → Bool} {held : Bool}
set_option maxRecDepth 100000 in
theorem open_rec_arg {W : World} {r : Reach} {b2 : Nat} {v : Value} {d : DataW H} {ps : List MemPlace} (hv : Value.okWide Try.prog W r b2 50 v) (h : DataW.Trod enc Try.prog W base spare held 50 v d ps) :
    ∃ g : S50, v = .agg #[.int .i64 g.f0, .int .i64 g.f1, .string g.f2] := by
  obtain ⟨cs, rfl, _⟩ := okWide_struct Try.underlying50 hv
  obtain ⟨fuel, hf⟩ := h
  have hf' : DataW.trod enc Try.prog W base spare held fuel 50 cs.toList = some (d, ps) := hf
  obtain ⟨xs, m, rfl, _, hlen, hxl, hq⟩ := DataW.trod_struct (Try.underlying50) hf'
  have hl : cs.toList.length = 3 := hlen
  obtain ⟨c0, c1, c2, hc⟩ : ∃ c0 c1 c2, cs.toList = [c0, c1, c2] := by
    match cs.toList, hl with
    | [a, b, c], _ => exact ⟨a, b, c, rfl⟩
  have hx : xs.length = 3 := hxl
  have f0 := hq 0 _ rfl
  have f1 := hq 1 _ rfl
  have f2 := hq 2 _ rfl
  rw [List.getElem?_eq_getElem (by omega)] at f0 f1 f2
  obtain ⟨x0, e0, _, _⟩ := DataW.trod_int (k := .i64) (by kernel_rfl) f0
  obtain ⟨x1, e1, _, _⟩ := DataW.trod_int (k := .i64) (by kernel_rfl) f1
  obtain ⟨x2, e2, _, _⟩ := DataW.trod_string (by kernel_rfl) f2
  rw [hc] at e0 e1 e2
  have e0' : [c0] = [Value.int .i64 x0] := e0
  have e1' : [c1] = [Value.int .i64 x1] := e1
  have e2' : [c2] = [Value.string x2] := e2
  injection e0' with e0' _
  injection e1' with e1' _
  injection e2' with e2' _
  subst e0' e1' e2'
  refine ⟨⟨x0, x1, x2⟩, ?_⟩
  show Value.agg cs = _
  congr 1
  apply Array.toList_inj.1
  exact hc
end
end Go.Proofs.Ytgipepjpkmlmaaa.P
