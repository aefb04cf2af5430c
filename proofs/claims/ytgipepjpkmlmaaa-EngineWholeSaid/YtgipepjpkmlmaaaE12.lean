import Derived.Test.YtgipepjpkmlmaaaM5
import Derived.Deep.Slices
import Derived.ChangeArms
import Derived.WideShapes
namespace Go.Proofs.Ytgipepjpkmlmaaa.P
open Go.RowKit Go.Proofs.YtgipepjpkmlmaaaW.PrintWords Go.Proofs.YtgipepjpkmlmaaaW.PrintLast Go.Proofs.YtgipepjpkmlmaaaW.PrintMore
set_option linter.unusedVariables false
set_option linter.unusedSimpArgs false
open Go.ChangeShapes Go.WideShapes
section
variable {H : Type} {enc : TypeId × Value → H} {w : World} {base : Nat} {spare : Nat → Bool} {held : Bool}
theorem open_row {α : Type} [Inhabited α] (d : Kd α) {t e : TypeId} {fuel : Nat} {a : Option Addr} {len cap : Nat} {x : DataW H × List MemPlace} (ht : Try.prog.underlying t = some (.slice e)) (hc : Try.prog.cellsOf e = d.sz)
    (each : ∀ n cs y, n < fuel → DataW.trod enc Try.prog w base spare held n e cs = some y → ∃ p : α, d.K w p cs)
    (h : DataW.trod enc Try.prog w base spare held fuel t [.slice a len cap] = some x) : ∃ xs : List α, xs.length = len ∧ len ≤ cap ∧ cap ≤ maxLen ∧ d.C w a len xs := by
  rcases DataW.trod_slice ht h with ⟨h0, _⟩ | ⟨b, len', cap', elems, rest, n, hn, he, _, hb, hl, hm, hlen, hel, _, _⟩
  · injection h0 with h0 _
    injection h0 with h1 h2 h3
    subst h1 h2 h3
    exact ⟨[], rfl, Nat.le_refl _, Nat.zero_le _, rfl, by omega, fun h => absurd h (Nat.lt_irrefl 0)⟩
  · injection he with he _
    injection he with h1 h2 h3
    subst h1 h2 h3
    have hx : ∀ i, i < len → ∃ p : α × List Value, p.2.length = d.sz ∧ d.K w p.1 p.2 ∧ ∀ j u, p.2[j]? = some u → w.cell? (b.add (i * d.sz + j)) = some u := by
      intro i hi
      have h1 := hel i hi
      rw [List.getElem?_eq_getElem (by omega)] at h1
      obtain ⟨cs, h2, h3⟩ := Option.bind_eq_some_iff.1 h1
      obtain ⟨p, hp⟩ := each n cs _ (by omega) h3
      obtain ⟨_, hl2, hcell⟩ := World.cells?_some h2
      rw [hc] at hl2 hcell
      refine ⟨(p, cs), hl2, hp, fun j u hj => ?_⟩
      have hj' : cs[j]? = some u := hj
      have hjl : j < cs.length := by
        rcases Nat.lt_or_ge j cs.length with h | h
        · exact h
        · rw [List.getElem?_eq_none h] at hj'; cases hj'
      rw [← add_add, hcell j (by omega)]
      exact hj'
    obtain ⟨V, hV⟩ := Go.Deep.choose_lt hx
    refine ⟨(List.range len).map fun i => (V i).1, by simp, hl, hm, by simp, by unfold maxLen at hm; omega, fun _ => ⟨b, rfl, fun j p hj => ?_⟩⟩
    have hjl : j < len := by
      rcases Nat.lt_or_ge j len with h | h
      · exact h
      · rw [List.getElem?_eq_none (by simpa using h)] at hj; cases hj
    simp only [List.getElem?_map, List.getElem?_range hjl, Option.map_some] at hj
    obtain rfl := Option.some.inj hj
    exact ⟨(V j).2, (hV j hjl).1, (hV j hjl).2.1, (hV j hjl).2.2⟩

instance : Inhabited S50 := ⟨z50⟩
set_option maxRecDepth 100000 in
theorem open_rec {n : Nat} {cs : List Value} {y : DataW H × List MemPlace} (h : DataW.trod enc Try.prog w base spare held n 50 cs = some y) : ∃ p : S50, k50.K w p cs := by
  obtain ⟨xs, m, rfl, _, hlen, hxl, hf⟩ := DataW.trod_struct (Try.underlying50) h
  have hl : cs.length = 3 := hlen
  obtain ⟨c0, c1, c2, rfl⟩ : ∃ c0 c1 c2, cs = [c0, c1, c2] := by
    match cs, hl with
    | [a, b, c], _ => exact ⟨a, b, c, rfl⟩
  have hx : xs.length = 3 := hxl
  have f0 := hf 0 _ rfl
  have f1 := hf 1 _ rfl
  have f2 := hf 2 _ rfl
  rw [List.getElem?_eq_getElem (by omega)] at f0 f1 f2
  obtain ⟨x0, e0, _, _⟩ := DataW.trod_int (k := .i64) (by kernel_rfl) f0
  obtain ⟨x1, e1, _, _⟩ := DataW.trod_int (k := .i64) (by kernel_rfl) f1
  obtain ⟨x2, e2, _, _⟩ := DataW.trod_string (by kernel_rfl) f2
  have e0' : [c0] = [Value.int .i64 x0] := e0
  have e1' : [c1] = [Value.int .i64 x1] := e1
  have e2' : [c2] = [Value.string x2] := e2
  injection e0' with e0' _
  injection e1' with e1' _
  injection e2' with e2' _
  subst e0' e1' e2'
  exact ⟨⟨x0, x1, x2⟩, k50_mk w ⟨x0, x1, x2⟩⟩
set_option maxRecDepth 100000 in
theorem open_recs {fuel : Nat} {a : Option Addr} {len cap : Nat} {x : DataW H × List MemPlace} (h : DataW.trod enc Try.prog w base spare held fuel 24 [.slice a len cap] = some x) :
    ∃ xs : List S50, xs.length = len ∧ len ≤ cap ∧ cap ≤ maxLen ∧ k50.C w a len xs :=
  open_row k50 (Try.underlying24) rfl (fun _ _ _ _ h => open_rec h) h
set_option maxRecDepth 100000 in
theorem open_grid_arg {W : World} {r : Reach} {b2 : Nat} {v : Value} {d : DataW H} {ps : List MemPlace} (hv : Value.okWide Try.prog W r b2 23 v) (h : DataW.Trod enc Try.prog W base spare held 23 v d ps) :
    ∃ g : S23, v = gridV g := by
  obtain ⟨cs, rfl, _⟩ := okWide_struct Try.underlying23 hv
  obtain ⟨fuel, hf⟩ := h
  have hf' : DataW.trod enc Try.prog W base spare held fuel 23 cs.toList = some (d, ps) := hf
  obtain ⟨xs, m, rfl, _, hlen, hxl, hq⟩ := DataW.trod_struct (Try.underlying23) hf'
  have hl : cs.toList.length = 3 := hlen
  obtain ⟨c0, c1, c2, hc⟩ : ∃ c0 c1 c2, cs.toList = [c0, c1, c2] := by
    match cs.toList, hl with
    | [a, b, c], _ => exact ⟨a, b, c, rfl⟩
  have hx : xs.length = 3 := hxl
  have f0 := hq 0 _ rfl
  have f1 := hq 1 _ rfl
  have f2 := hq 2 _ rfl
  rw [List.getElem?_eq_getElem (by omega)] at f0 f1 f2
  obtain ⟨x0, e0, _, _⟩ := DataW.trod_int (k := .i64) (by kernel_rfl) f0
  obtain ⟨x1, e1, _, _⟩ := DataW.trod_int (k := .i64) (by kernel_rfl) f1
  obtain ⟨x2, e2, _, _⟩ := DataW.trod_int (k := .i64) (by kernel_rfl) f2
  rw [hc] at e0 e1 e2
  have e0' : [c0] = [Value.int .i64 x0] := e0
  have e1' : [c1] = [Value.int .i64 x1] := e1
  have e2' : [c2] = [Value.int .i64 x2] := e2
  injection e0' with e0' _
  injection e1' with e1' _
  injection e2' with e2' _
  subst e0' e1' e2'
  refine ⟨⟨x0, x1, x2⟩, ?_⟩
  show Value.agg cs = _
  congr 1
  apply Array.toList_inj.1
  exact hc
end
end Go.Proofs.Ytgipepjpkmlmaaa.P
