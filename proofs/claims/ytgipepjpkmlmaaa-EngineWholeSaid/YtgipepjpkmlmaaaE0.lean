import Derived.Test.YtgipepjpkmlmaaaEZ
import Derived.OrdersHeld
import Derived.Deep.RegionHeld
namespace Go.Proofs.Ytgipepjpkmlmaaa.P
open Go.RowKit Go.Proofs.YtgipepjpkmlmaaaW.PrintWords Go.Proofs.YtgipepjpkmlmaaaW.PrintLast Go.Proofs.YtgipepjpkmlmaaaW.PrintMore
set_option linter.unusedVariables false
set_option linter.unusedSimpArgs false

/-- How far a region has come. -/
def lsB : Nat → Nat → List Bool
  | 0, _ => []
  | n + 1, 0 => false :: lsB n 0
  | n + 1, k + 1 => true :: lsB n k
def lsA (n k : Nat) : Array Bool := (lsB n k).toArray
section
variable {P : Program} {ops : Array Oper} {Q : Exit → Act → World → Prop} {md : Region.Mode} {S : World → Prop}
/-- 'wpAnyH_take', with the operation, the list and the state written out. -/
theorem takeD {i : Nat} {oi : Oper} {d : Option Nat} {v : Value} {fuel : Nat} {listed ls2 : Array Bool} {a ac2 : Act} {w : World} (hi : ops.toList[i]? = some oi) (hd : oi.dst = d)
    (hs : Region.noSelect ops = true) (hf : Region.free md ops listed i = true) (hr : (Region.ready md ops listed).contains i = true)
    (hQ : ∀ c a w, Q (.panic c) (a.put oi.dst v) w → Q (.panic c) a w) (hy : YieldsIf P ops S oi v a) (hS : S w) (hl : listed.setIfInBounds i true = ls2) (ha : a.put d v = ac2)
    (h : wpAnyH P md ops Q S fuel ls2 ac2 w) : wpAnyH P md ops Q S (fuel + 1) listed a w := by
  subst hl ha hd
  exact wpAnyH_take (by rw [← hi, Array.getElem?_toList]) hs hf hr hQ hy hS h
/-- One operation that comes up alone. -/
theorem doD {i : Nat} {o : Oper} {fuel : Nat} {listed ls2 : Array Bool} {a : Act} {w : World} (hr : Region.ready md ops listed = [i]) (hi : ops.toList[i]? = some o) (hl : listed.setIfInBounds i true = ls2)
    (hw : Region.wanted o (yielded ops a.tmps) = true)
    (h : ∀ K' : Act → World → Prop, Shut (∀ a w, S w → (S w → wpAnyH P md ops Q S fuel ls2 a w) → K' a w) → Oper.wp P o a w K' Q) : wpAnyH P md ops Q S (fuel + 1) listed a w := by
  subst hl
  refine wpAnyH_ready hr (by simp) (AllReadyH.cons (by rw [← hi, Array.getElem?_toList]) (fun K hK => ?_) AllReadyH.nil)
  rw [if_pos hw]
  exact h K hK
/-- takeD and the leaving out, their proofs being what they are nearly always. -/
theorem takeE (i : Nat) (d : Option Nat) (ls2 : Array Bool) {oi : Oper} {v : Value} {fuel : Nat} {listed : Array Bool} {a ac2 : Act} {w : World} (hS : S w) (h : wpAnyH P md ops Q S fuel ls2 ac2 w)
    (hi : ops.toList[i]? = some oi := by exact rfl) (hd : oi.dst = d := by exact rfl)
    (hs : Region.noSelect ops = true := by kernel_rfl) (hf : Region.free md ops listed i = true := by kernel_rfl) (hr : (Region.ready md ops listed).contains i = true := by kernel_rfl)
    (hQ : ∀ c a w, Q (.panic c) (a.put oi.dst v) w → Q (.panic c) a w := by exact fun _ _ _ h => h) (hw : Region.wanted oi (yielded ops a.tmps) = true := by kernel_rfl)
    (hy : ∀ w_, S w_ → (execOp a.eval oi).run P w_ = .ok (.value v) w_ := by (intro w_ hS_; go_simp <;> with_reducible rfl)) (hl : listed.setIfInBounds i true = ls2 := by kernel_rfl)
    (ha : a.put d v = ac2 := by simp only [Act.put, List.setIfInBounds_toArray, List.set_cons_zero, List.set_cons_succ] <;> with_reducible rfl) : wpAnyH P md ops Q S (fuel + 1) listed a w :=
  takeD hi hd hs hf hr hQ (Or.inl ⟨hw, hy⟩) hS hl ha h
theorem offE (i : Nat) (d : Option Nat) (ls2 : Array Bool) {oi : Oper} {fuel : Nat} {listed : Array Bool} {a ac2 : Act} {w : World} (hS : S w) (h : wpAnyH P md ops Q S fuel ls2 ac2 w)
    (hi : ops.toList[i]? = some oi := by exact rfl) (hd : oi.dst = d := by exact rfl)
    (hs : Region.noSelect ops = true := by kernel_rfl) (hf : Region.free md ops listed i = true := by kernel_rfl) (hr : (Region.ready md ops listed).contains i = true := by kernel_rfl)
    (hQ : ∀ c a w, Q (.panic c) (a.put oi.dst undef) w → Q (.panic c) a w := by exact fun _ _ _ h => h) (hw : Region.wanted oi (yielded ops a.tmps) = false := by kernel_rfl)
    (hl : listed.setIfInBounds i true = ls2 := by kernel_rfl)
    (ha : a.put d undef = ac2 := by simp only [Act.put, List.setIfInBounds_toArray, List.set_cons_zero, List.set_cons_succ] <;> with_reducible rfl) : wpAnyH P md ops Q S (fuel + 1) listed a w :=
  takeD hi hd hs hf hr hQ (Or.inr ⟨hw, rfl⟩) hS hl ha h
end
end Go.Proofs.Ytgipepjpkmlmaaa.P
