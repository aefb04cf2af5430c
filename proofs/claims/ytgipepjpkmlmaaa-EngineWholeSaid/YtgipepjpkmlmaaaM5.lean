import Derived.Test.YtgipepjpkmlmaaaF46
import Derived.Test.YtgipepjpkmlmaaaM1
import Derived.Test.YtgipepjpkmlmaaaM4
namespace Go.Proofs.Ytgipepjpkmlmaaa.P
set_option linter.unusedVariables false
set_option linter.unusedSimpArgs false
section
open Go.RowKit Go.Proofs.YtgipepjpkmlmaaaW.PrintWords Go.Proofs.YtgipepjpkmlmaaaW.PrintLast Go.Proofs.YtgipepjpkmlmaaaW.PrintMore
/-- A grid that may be, as grid.Check has it. -/
def chkG (g : S23) : Bool := decide (1 ≤ g.f0 ∧ g.f0 ≤ 1048576 ∧ 1 ≤ g.f1 ∧ g.f1 ≤ g.f0 ∧ Int.tmod g.f0 g.f1 = 0 ∧ wrap64 (Int.tdiv g.f0 g.f1) ≤ 8 ∧ 0 ≤ g.f2 ∧ g.f2 ≤ 1048576)
theorem check_f (g : S23) : grid_Check.f g.f0 g.f1 g.f2 = some (argE (chkG g)) := by
  unfold grid_Check.f argE chkG
  by_cases h1 : g.f0 < 1
  · rw [if_pos h1]; simp; omega
  rw [if_neg h1]
  by_cases h2 : g.f0 > 1048576
  · rw [if_pos h2]; simp; omega
  rw [if_neg h2]
  by_cases h3 : g.f1 < 1
  · rw [if_pos h3]; simp; omega
  rw [if_neg h3]
  by_cases h4 : g.f1 > g.f0
  · rw [if_pos h4]; simp; omega
  rw [if_neg h4, if_neg (by omega)]
  by_cases h5 : Int.tmod g.f0 g.f1 = 0
  · rw [if_pos h5]
    by_cases h6 : wrap64 (Int.tdiv g.f0 g.f1) > 8
    · rw [if_pos h6]; simp; omega
    rw [if_neg h6]
    by_cases h7 : g.f2 < 0
    · rw [if_pos h7]; simp; omega
    rw [if_neg h7]
    by_cases h8 : g.f2 > 1048576
    · rw [if_pos h8]; simp; omega
    rw [if_neg h8, decide_eq_true ⟨by omega, by omega, by omega, by omega, h5, by omega, by omega, by omega⟩]
    rfl
  · rw [if_neg h5, decide_eq_false (fun q => h5 q.2.2.2.2.1)]
    rfl
/-- Whether a window is closed. -/
def closedP (g : S23) (start mark : Int) : Bool := chkG g && (decide (0 ≤ mark) && decide (start ≤ wrap64 (wrap64 (mark - g.f0) - g.f2)))
theorem closed_f (g : S23) (start mark : Int) : grid_Closed.f g.f0 g.f1 g.f2 start mark = some (closedP g start mark) := by
  unfold grid_Closed.f closedP
  rw [check_f, Option.bind_some]
  cases h : chkG g with
  | true =>
    rw [show argE true = 0 from rfl, if_pos rfl]
    by_cases h2 : mark ≥ 0
    · rw [if_pos h2, decide_eq_true h2]
      simp
    · rw [if_neg h2, decide_eq_false h2]
      rfl
  | false => rfl
abbrev gridV (g : S23) : Value := .agg #[.int .i64 g.f0, .int .i64 g.f1, .int .i64 g.f2]
theorem check_calls (g : S23) (w : World) : Calls Try.prog 44 #[gridV g] w fun e w' => e = .returned (.int .i64 (argE (chkG g))) ∧ Below w.heap.size w w' :=
  grid_Check.calls g.f0 g.f1 g.f2 _ w (check_f g)
theorem closed_calls (g : S23) (start mark : Int) (w : World) : Calls Try.prog 46 #[gridV g, .int .i64 start, .int .i64 mark] w fun e w' => e = .returned (.bool (closedP g start mark)) ∧ Below w.heap.size w w' :=
  grid_Closed.calls g.f0 g.f1 g.f2 start mark _ w (closed_f g start mark)
end
section
open Go.RowKit Go.Proofs.YtgipepjpkmlmaaaW.PrintWords Go.Proofs.YtgipepjpkmlmaaaW.PrintLast Go.Proofs.YtgipepjpkmlmaaaW.PrintMore
/-- What the two closures see: the grid's box and the state's. -/
structure Sees (w : World) (gg gs : Nat) (g : S23) (mark : Int) : Prop where
  grid : w.heap[gg]? = some (.cells #[.int .i64 g.f0, .int .i64 g.f1, .int .i64 g.f2] 23 (0, 0))
  st : ∃ cs, w.heap[gs]? = some (.cells cs 28 (0, 0)) ∧ cs[0]? = some (.int .i64 mark)
theorem Sees.below {w w' : World} {gg gs : Nat} {g : S23} {mark : Int} (h : Sees w gg gs g mark) (hb : Below w.heap.size w w') : Sees w' gg gs g mark := by
  obtain ⟨h1, cs, h2, h3⟩ := h
  exact ⟨blk_below h1 hb, cs, blk_below h2 hb, h3⟩
theorem feed1_calls (g : S23) (mark t : Int) (gg gs : Nat) (w : World) (h : Sees w gg gs g mark) :
    Calls Try.prog 56 #[.int .i64 t, .pointer (some ⟨gg, 0, none⟩), .pointer (some ⟨gs, 0, none⟩)] w fun e w' => e = .returned (.bool (closedP g t mark)) ∧ Below w.heap.size w w' := by
  obtain ⟨h1, cs, h2, h3⟩ := h
  have hc := closed_calls g t mark w
  generalize closedP g t mark = b at hc ⊢
  have q0 : w.cell? ⟨gg, 0, none⟩ = some (.int .i64 g.f0) := (blk_cell h1 0).trans rfl
  have q1 : w.cell? ⟨gg, 1, none⟩ = some (.int .i64 g.f1) := (blk_cell h1 1).trans rfl
  have q2 : w.cell? ⟨gg, 2, none⟩ = some (.int .i64 g.f2) := (blk_cell h1 2).trans rfl
  have s0 : w.cell? ⟨gs, 0, none⟩ = some (.int .i64 mark) := (blk_cell h2 0).trans h3
  have hu := Try.underlying23
  clear h1 h2 h3
  go_enter Try.func56, Try.ntmps56
  go_wp2_with (first | (go_at_call 46; go_loud ((with_reducible refine hc.mono ?_); rintro e w' ⟨rfl, hb⟩)))
  go_ret
  exact ⟨rfl, hb⟩
/-- The first start that is closed, from a place on. -/
def clAt (g : S23) (mark : Int) (l : List Int) : Nat → Nat → Int
  | 0, _ => -1
  | k + 1, i => if closedP g (rd l (i : Int)) mark = true then (i : Int) else clAt g mark l k (i + 1)
set_option maxHeartbeats 4000000 in
set_option maxRecDepth 100000 in
theorem idx1_calls (g : S23) (mark : Int) (gg gs : Nat) (A : Option Addr) (c : Nat) (l : List Int) (w : World) (hs : Sees w gg gs g mark) (hr : (Kd.int .i64).C w A l.length l) (hc : l.length ≤ c) (hl : l.length ≤ 1000000) :
    Calls Try.prog 84 #[.slice A l.length c, .func (.func 56) #[] #[.pointer (some ⟨gg, 0, none⟩), .pointer (some ⟨gs, 0, none⟩)]] w fun e w' => e = .returned (.int .i64 (clAt g mark l l.length 0)) ∧ Below w.heap.size w w' := by
  go_enter Try.func84, Try.ntmps84
  go_wp2
  go_loopg [8] l.length (fun kq v8 wr => ∃ (i : Nat), v8 = .int .i64 (i : Int) ∧ i ≤ l.length ∧ l.length - i ≤ kq ∧ clAt g mark l (l.length - i) i = clAt g mark l l.length 0 ∧ Below w.heap.size w wr)
  case atStart => exact ⟨0, rfl, Nat.zero_le _, by omega, rfl, Below.refl _ _⟩
  case round =>
    obtain ⟨i, rfl, hil, hik, ho, hbw⟩ := hrel
    by_cases hlt : i < l.length
    rotate_left
    · have d1 : decide ((i : Int) < (l.length : Int)) = false := decide_eq_false (by omega)
      rw [show l.length - i = 0 by omega] at ho
      have HO := Lib.hid ho
      clear ho
      go_wp2
      go_ret
      exact ⟨by rw [← HO.out]; rfl, hbw⟩
    have d1 : decide ((i : Int) < (l.length : Int)) = true := decide_eq_true (by omega)
    have hrw := Kd.C_below hr hbw
    have hsw := hs.below hbw
    obtain ⟨ad, rfl, hx⟩ := Kd.at_int hrw (i : Int) (by omega) (by omega)
    rw [Int.toNat_natCast] at hx
    rw [show l.length - i = (l.length - (i + 1)) + 1 by omega] at ho
    simp only [clAt] at ho
    revert ho hx
    generalize rd l (i : Int) = n
    intro ho hx
    cases gk with
    | zero => omega
    | succ gk =>
    have hcall := feed1_calls g mark n gg gs wr hsw
    cases hn : closedP g n mark with
    | true =>
      rw [hn] at hcall ho
      rw [if_pos rfl] at ho
      have HO := Lib.hid ho
      clear ho hn
      go_wp2_with (first | (go_at_call 56; go_loud ((with_reducible refine hcall.mono ?_); rintro e w' ⟨rfl, hb2⟩)))
      go_ret
      exact ⟨by rw [← HO.out]; rfl, below_step hbw hb2⟩
    | false =>
      rw [hn] at hcall ho
      rw [if_neg (by decide)] at ho
      have HO := Lib.hid ho
      clear ho hn
      go_wp2_with (first | (go_at_call 56; go_loud ((with_reducible refine hcall.mono ?_); rintro e w' ⟨rfl, hb2⟩)))
      go_roundg gk
      case measure => omega
      case rel => exact ⟨i + 1, by congr 1, by omega, by omega, HO.out, below_step hbw hb2⟩
end
section
open Go.RowKit Go.Proofs.YtgipepjpkmlmaaaW.PrintWords Go.Proofs.YtgipepjpkmlmaaaW.PrintLast Go.Proofs.YtgipepjpkmlmaaaW.PrintMore
/-- 'clear' of a part of a row that is known whole. -/
theorem run_clear_k {P : Program} (w : World) (t e ty : TypeId) (z : Value) (hu : P.underlying t = some (.slice e)) (hv : ∀ w, (zeroValue e).run P w = .ok z w) (g o n c : Nat) (cur : Array Value) (tt : TypeId)
    (hg : w.heap[g]? = some (.cells cur tt (0, 0))) (hfit : o + n * z.cells.size ≤ cur.size) (h1 : ∀ v ∈ (Builtin.zeroCells z.cells n).toList, v.oneCell' = true) :
    (Builtin.clear_ #[t] ty #[.slice (some ⟨g, o, none⟩) n c]).run P w = .ok (.tuple #[]) (w.setRow g (laid cur.toList o (Builtin.zeroCells z.cells n).toList).toArray) := by
  have hst := run_storeCells_at P g o tt (Builtin.zeroCells z.cells n).toList 0 cur w hg (by rw [Array.length_toList, zc_size]; omega) h1
  cases n with
  | zero =>
    have e0 : laid cur.toList o (Builtin.zeroCells z.cells 0).toList = cur.toList := by
      have : (Builtin.zeroCells z.cells 0).toList = [] := by simp [Builtin.zeroCells]
      rw [this]
      simp [laid]
    rw [e0, Array.toArray_toList, setRow_self w g cur tt (0, 0) hg]
    simp [Builtin.clear_, run_underlying hu]
  | succ n =>
    have hst' : (storeCells ⟨g, o, none⟩ (Builtin.zeroCells z.cells (n + 1)).toList).run P w = .ok () (w.setRow g (laid cur.toList o (Builtin.zeroCells z.cells (n + 1)).toList).toArray) := by
      rw [hst]
      simp [laid]
    simp [Builtin.clear_, run_underlying hu, hv, hst']
end
section
open Go.RowKit Go.Proofs.YtgipepjpkmlmaaaW.PrintWords Go.Proofs.YtgipepjpkmlmaaaW.PrintLast Go.Proofs.YtgipepjpkmlmaaaW.PrintMore
/-- The cells of a row of numbers. -/
def flatI (l : List Int) : List Value := l.map (.int .i64)
theorem flatI_length (l : List Int) : (flatI l).length = l.length := by simp [flatI]
theorem repsI_flat {w : World} {B : Nat} {ok : Nat → Prop} : ∀ (l : List Int) (cs : List Value), Reps ((Kd.int .i64).M w B ok) 1 l cs → cs = flatI l := by
  intro l
  induction l with
  | nil => intro cs h; simpa [flatI] using h.1
  | cons x l ih =>
    intro cs h
    have h1 : (cs.drop (0 * 1)).take 1 = [.int .i64 x] := h.2 0 x rfl
    rw [Nat.zero_mul, List.drop_zero] at h1
    have h2 : Reps ((Kd.int .i64).M w B ok) 1 l (cs.drop 1) := by
      refine ⟨by rw [List.length_drop, h.1, List.length_cons]; omega, fun j p hj => ?_⟩
      have := h.2 (j + 1) p (by simpa using hj)
      rw [List.drop_drop]
      rwa [show 1 + j * 1 = (j + 1) * 1 by omega]
    rw [show flatI (x :: l) = [.int .i64 x] ++ flatI l from rfl, ← ih _ h2, ← h1, List.take_append_drop]
theorem flatI_reps (w : World) (B : Nat) (ok : Nat → Prop) (l : List Int) : Reps ((Kd.int .i64).M w B ok) 1 l (flatI l) := by
  refine ⟨by rw [flatI_length]; omega, fun j p hj => ?_⟩
  have hlt : j < l.length := (List.getElem?_eq_some_iff.1 hj).1
  have e : l[j] = p := (List.getElem?_eq_some_iff.1 hj).2
  show ((flatI l).drop (j * 1)).take 1 = [.int .i64 p]
  rw [Nat.mul_one, flatI, ← List.map_drop, List.drop_eq_getElem_cons hlt, e]
  rfl
theorem ownI_of_R {w : World} {B : Nat} {ok : Nat → Prop} {v : Value} {l : List Int} (h : Kd.R (Kd.int .i64) 3 w B ok v l) : w.ownsRow B 3 1 v l.length (flatI l) := by
  obtain ⟨_, cs, ho, hr⟩ := h
  rw [← repsI_flat l cs hr]
  exact ho
theorem RI_of_own {w : World} {B : Nat} {ok : Nat → Prop} {v : Value} {l : List Int} (h : w.ownsRow B 3 1 v l.length (flatI l)) (hok : ∀ k, v.ownBlock = some k → ok k) : Kd.R (Kd.int .i64) 3 w B ok v l :=
  ⟨hok, flatI l, h, flatI_reps _ _ _ _⟩
theorem Sees.belowB {w w' : World} {B gg gs : Nat} {g : S23} {mark : Int} (h : Sees w gg gs g mark) (hb : Below B w w') (h1 : gg < B) (h2 : gs < B) : Sees w' gg gs g mark := by
  obtain ⟨q1, cs, q2, q3⟩ := h
  exact ⟨(hb.block gg h1).trans q1, cs, (hb.block gs h2).trans q2, q3⟩
end
section
open Go.RowKit Go.Proofs.YtgipepjpkmlmaaaW.PrintWords Go.Proofs.YtgipepjpkmlmaaaW.PrintLast Go.Proofs.YtgipepjpkmlmaaaW.PrintMore
theorem below_step2 {B : Nat} {w0 w w1 : World} (h : Below B w0 w) (hb : Below w.heap.size w w1) (hBw : B ≤ w.heap.size) : Below B w0 w1 := h.trans (hb.mono hBw)
/-- The starts that are not closed. -/
def keepI (g : S23) (mark : Int) (l : List Int) : List Int := l.filter (fun t => !closedP g t mark)
theorem rdI (l : List Int) (i : Nat) (h : i < l.length) : rd l (i : Int) = l[i] := by simp [rd, List.getD, List.getElem?_eq_getElem h]
theorem clAt_spec (g : S23) (mark : Int) (l : List Int) : ∀ k i, i + k = l.length → keepI g mark (l.take i) = l.take i →
    (clAt g mark l k i = -1 ∧ keepI g mark l = l) ∨ ∃ m : Nat, clAt g mark l k i = (m : Int) ∧ m < l.length ∧ keepI g mark (l.take (m + 1)) = l.take m := by
  intro k
  induction k with
  | zero =>
    intro i h hk
    rw [List.take_of_length_le (by omega)] at hk
    exact .inl ⟨rfl, hk⟩
  | succ k ih =>
    intro i h hk
    have hlt : i < l.length := by omega
    have e : clAt g mark l (k + 1) i = if closedP g (rd l (i : Int)) mark = true then (i : Int) else clAt g mark l k (i + 1) := rfl
    have et : l.take (i + 1) = l.take i ++ [l[i]] := by rw [List.take_add_one, List.getElem?_eq_getElem hlt]; rfl
    rw [e, rdI l i hlt]
    by_cases c : closedP g l[i] mark = true
    · rw [if_pos c]
      refine .inr ⟨i, rfl, hlt, ?_⟩
      rw [et, keepI, List.filter_append, ← keepI, hk]
      simp [c]
    · rw [if_neg c]
      refine ih (i + 1) (by omega) ?_
      rw [et, keepI, List.filter_append, ← keepI, hk]
      simp [c]
set_option maxHeartbeats 8000000 in
set_option maxRecDepth 100000 in
theorem delete1_calls (g : S23) (mark : Int) (gg gs : Nat) (B : Nat) (w0 w : World) (ok : Nat → Prop) (A : Option Addr) (c : Nat) (l : List Int) (hs : Sees w gg gs g mark) (hgg : gg < B) (hgs : gs < B)
    (hR : Kd.R (Kd.int .i64) 3 w B ok (.slice A l.length c) l) (hB : Below B w0 w) (hBw : B ≤ w.heap.size) (hl : l.length ≤ 1000000) :
    Calls Try.prog 55 #[.slice A l.length c, .func (.func 56) #[] #[.pointer (some ⟨gg, 0, none⟩), .pointer (some ⟨gs, 0, none⟩)]] w fun e w' => ∃ v', e = .returned v' ∧ Kd.R (Kd.int .i64) 3 w' B ok v' (keepI g mark l) ∧ Below B w0 w' := by
  have hrd := Kd.R_reads' hR
  have hc : l.length ≤ c := hrd.2.1
  have hidx := idx1_calls g mark gg gs A c l w hs hrd.2.2 hc hl
  rcases clAt_spec g mark l l.length 0 (by omega) (by simp [keepI]) with ⟨e1, e2⟩ | ⟨m, e1, hm, e2⟩
  · rw [e1] at hidx
    rw [e2]
    have HR := Lib.hid hR
    clear hR hrd e1 e2
    go_enter Try.func55, Try.ntmps55
    go_wp2_with (first | (go_at_call 84; go_loud ((with_reducible refine hidx.mono ?_); rintro e w1 ⟨rfl, hb1⟩)))
    go_ret
    exact ⟨_, rfl, Kd.R_below HR.out hb1, below_step2 hB hb1 hBw⟩
  · rw [e1] at hidx
    obtain ⟨gr, cur, rfl, hBg, hg, hnc, hcm, hcs, htk⟩ : ∃ gr cur, A = some ⟨gr, 0, none⟩ ∧ B ≤ gr ∧ w.heap[gr]? = some (.cells cur 3 (0, 0)) ∧ l.length ≤ c ∧ c ≤ maxLen ∧ cur.size = c * 1 ∧ cur.toList.take (l.length * 1) = flatI l := by
      rcases (ownI_of_R hR).2 with ⟨e, h0⟩ | ⟨g, cap, cur, e, h1, h2, h3, h4, h5, h6⟩
      · omega
      · cases e
        exact ⟨g, cur, rfl, h1, h2, h3, h4, h5, h6⟩
    have hokg := hR.1 gr rfl
    clear hR hrd e1
    have dm : ((m : Int) == -1) = false := beq_eq_false_iff_ne.2 (by omega)
    go_enter Try.func55, Try.ntmps55
    go_wp2_with (first | (go_at_call 84; go_loud ((with_reducible refine hidx.mono ?_); rintro e w1 ⟨rfl, hb1⟩)))
    have hg1 := blk_below hg hb1
    have hB1 := below_step2 hB hb1 hBw
    have hs1 := hs.below hb1
    have hsz1 : B ≤ w1.heap.size := Nat.le_trans hBw hb1.size
    clear hidx hg hB hs hb1 hBw
    go_loopg [5, 6] l.length (fun kq v5 v6 wr => ∃ (i j : Nat) (xs : List Int) (tl : List Value), v5 = .int .i64 (i : Int) ∧ v6 = .int .i64 (j : Int) ∧ i < j ∧ j ≤ l.length ∧ l.length - j ≤ kq ∧ xs.length = l.length ∧ tl.length = c - l.length ∧ xs.take i = keepI g mark (l.take j) ∧ xs.drop j = l.drop j ∧ wr.heap[gr]? = some (.cells (flatI xs ++ tl).toArray 3 (0, 0)) ∧ Below B w1 wr)
    case atStart =>
      refine ⟨m, m + 1, l, cur.toList.drop l.length, rfl, by first | rfl | (congr 1), by omega, by omega, by omega, rfl, by rw [List.length_drop, Array.length_toList]; omega, e2.symm, rfl, ?_, Below.refl _ _⟩
      rw [← htk, Nat.mul_one, List.take_append_drop, Array.toArray_toList]
      exact hg1
    case round =>
      obtain ⟨i, j, xs, tl, rfl, rfl, hij, hjl, hjk, hxl, htl, hxi, hxj, hgw, hbw⟩ := hrel
      have hBr : Below B w0 wr := hB1.trans hbw
      have hsr := hs1.belowB hbw hgg hgs
      by_cases hlt : j < l.length
      rotate_left
      · have d : decide ((j : Int) < (l.length : Int)) = false := decide_eq_false (by omega)
        obtain rfl : j = l.length := by omega
        rw [List.take_length] at hxi
        have hfit : i + (l.length - i) * (Value.int .i64 0).cells.size ≤ (flatI xs ++ tl).toArray.size := by
          have e0 : (Value.int .i64 0).cells.size = 1 := rfl
          have e1 : (flatI xs ++ tl).toArray.size = c := by
            rw [List.size_toArray, List.length_append, flatI_length]
            omega
          rw [e0, e1]
          omega
        have hone : ∀ v ∈ (Builtin.zeroCells (Value.int .i64 0).cells (l.length - i)).toList, v.oneCell' = true := by
          intro v hv
          simp [Builtin.zeroCells, Value.cells] at hv
          obtain ⟨_, _, rfl⟩ := hv
          rw [Nat.mod_one]
          rfl
        have hclr : ∀ ty, (Builtin.clear_ #[53] ty #[.slice (some ⟨gr, i, none⟩) (l.length - i) (c - i)]).run Try.prog wr = .ok (.tuple #[]) (wr.setRow gr (laid (flatI xs ++ tl) i (Builtin.zeroCells (Value.int .i64 0).cells (l.length - i)).toList).toArray) := fun ty =>
          run_clear_k wr 53 3 ty (.int .i64 0) Try.underlying53 (fun w => by kernel_rfl) gr i (l.length - i) (c - i) (flatI xs ++ tl).toArray 3 hgw hfit hone
        obtain ⟨W2, hW2⟩ : ∃ W2, W2 = wr.setRow gr (laid (flatI xs ++ tl) i (Builtin.zeroCells (Value.int .i64 0).cells (l.length - i)).toList).toArray := ⟨_, rfl⟩
        have hg2 : W2.heap[gr]? = some (.cells (laid (flatI xs ++ tl) i (Builtin.zeroCells (Value.int .i64 0).cells (l.length - i)).toList).toArray 3 (0, 0)) := by rw [hW2]; exact setRow_heap _ _ _ _ _ _ hgw
        have hB2 : Below B w0 W2 := by rw [hW2]; exact below_setRow hBr hBg _
        rw [← hW2] at hclr
        clear hW2
        have hlz : (Builtin.zeroCells (Value.int .i64 0).cells (l.length - i)).toList.length = l.length - i := by rw [Array.length_toList, zc_size]; exact Nat.mul_one _
        have hlen : (laid (flatI xs ++ tl) i (Builtin.zeroCells (Value.int .i64 0).cells (l.length - i)).toList).length = c := by
          rw [laid_length _ _ _ (by rw [hlz, List.length_append, flatI_length]; omega), List.length_append, flatI_length]
          omega
        have hlk : (keepI g mark l).length = i := by rw [← hxi, List.length_take]; omega
        have hR2 : Kd.R (Kd.int .i64) 3 W2 B ok (.slice (some ⟨gr, 0, none⟩) i c) (keepI g mark l) := by
          refine RI_of_own ⟨by rw [flatI_length]; omega, .inr ⟨gr, c, _, by rw [hlk], hBg, hg2, by omega, hcm, by rw [List.size_toArray, hlen]; omega, ?_⟩⟩ (fun k hk => by (have e : gr = k := by simpa [Value.ownBlock] using hk); subst e; exact hokg)
          rw [hlk, Nat.mul_one, ← hxi]
          show (laid (flatI xs ++ tl) i _).take i = _
          unfold laid
          rw [List.append_assoc, List.take_append_of_le_length (by rw [List.length_take, List.length_append, flatI_length]; omega), List.take_take, Nat.min_self, List.take_append_of_le_length (by rw [flatI_length]; omega), flatI, flatI, List.map_take]
        have HR2 := Lib.hid hR2
        have HB2 := Lib.hid hB2
        have hci : ¬ c = i := by omega
        have hb3 : (0 : Int) ≤ (i : Int) ∧ (i : Int) ≤ (l.length : Int) := by omega
        have hb4 : (0 : Int) ≤ (i : Int) ∧ (i : Int) ≤ (c : Int) := by omega
        clear hR2 hB2 hlen hlz hlk hg2 hfit hone
        go_wp2
        go_ret
        exact ⟨_, rfl, HR2.out, HB2.out⟩
      have d : decide ((j : Int) < (l.length : Int)) = true := decide_eq_true (by omega)
      cases gk with
      | zero => omega
      | succ gk =>
      obtain ⟨v, hv⟩ : ∃ v, l[j] = v := ⟨_, rfl⟩
      have hxv : xs[j]? = some v := by
        have h0 : (xs.drop j)[0]? = (l.drop j)[0]? := by rw [hxj]
        rw [List.getElem?_drop, List.getElem?_drop, Nat.add_zero, List.getElem?_eq_getElem hlt, hv] at h0
        exact h0
      have hcell : wr.cell? ⟨gr, j, none⟩ = some (.int .i64 v) := by
        rw [blk_cell hgw j]
        simp [flatI, List.getElem?_append_left, hxl, hlt, hxv]
        exact (List.getElem?_eq_some_iff.1 hxv).2
      have hcall := feed1_calls g mark v gg gs wr hsr
      have hBs : B ≤ wr.heap.size := Nat.le_trans hsz1 hbw.size
      have et : l.take (j + 1) = l.take j ++ [v] := by rw [List.take_add_one, List.getElem?_eq_getElem hlt, hv]; rfl
      have hxj1 : xs.drop (j + 1) = l.drop (j + 1) := by
        have := congrArg (List.drop 1) hxj
        rwa [List.drop_drop, List.drop_drop] at this
      cases hn : closedP g v mark with
      | true =>
        rw [hn] at hcall
        have hki : xs.take i = keepI g mark (l.take (j + 1)) := by rw [et, keepI, List.filter_append, ← keepI, ← hxi]; simp [hn]
        clear hn
        go_wp2_with (first | (go_at_call 56; go_loud ((with_reducible refine hcall.mono ?_); rintro e w2 ⟨rfl, hb2⟩)))
        go_roundg gk
        case measure => omega
        case rel => exact ⟨i, j + 1, xs, tl, rfl, by first | rfl | (congr 1), by omega, by omega, by omega, hxl, htl, hki, hxj1, blk_below hgw hb2, hbw.trans (hb2.mono hBs)⟩
      | false =>
        rw [hn] at hcall
        obtain ⟨xi, hxi0⟩ : ∃ y, xs[i]? = some y := ⟨xs[i]'(by omega), List.getElem?_eq_getElem (by omega)⟩
        have hci : (flatI xs ++ tl)[i]? = some (.int .i64 xi) := by
          rw [List.getElem?_append_left (by rw [flatI_length]; omega), flatI, List.getElem?_map, hxi0]
          rfl
        have hki : (xs.set i v).take (i + 1) = keepI g mark (l.take (j + 1)) := by
          have e3 : keepI g mark [v] = [v] := by simp [keepI, hn]
          rw [et, keepI, List.filter_append, ← keepI, ← keepI, ← hxi, e3, List.set_eq_take_append_cons_drop, if_pos (by omega), show xs.take i ++ v :: xs.drop (i + 1) = (xs.take i ++ [v]) ++ xs.drop (i + 1) by simp, List.take_append_of_le_length (by simp; omega), List.take_of_length_le (by simp; omega)]
        have hsd : (xs.set i v).drop (j + 1) = l.drop (j + 1) := by rw [List.drop_set_of_lt (by omega)]; exact hxj1
        have hci2 : ∀ w2, Below wr.heap.size wr w2 → w2.cell? ⟨gr, i, none⟩ = some (.int .i64 xi) := fun w2 hb2 => by rw [blk_cell (blk_below hgw hb2) i, List.getElem?_toArray]; exact hci
        have hfz2 : ∀ w2, Below wr.heap.size wr w2 → w2.frozen? ⟨gr, i, none⟩ = false := fun w2 hb2 => blk_frozen (blk_below hgw hb2) i
        clear hn
        go_wp2_with (first | (go_at_call 56; go_loud ((with_reducible refine hcall.mono ?_); rintro e w2 ⟨rfl, hb2⟩; have q1 := hci2 w2 hb2; have q2 := hfz2 w2 hb2)))
        go_roundg gk
        case measure => omega
        case rel =>
          refine ⟨i + 1, j + 1, xs.set i v, tl, by first | rfl | (congr 1), by first | rfl | (congr 1), by omega, by omega, by omega, by rw [List.length_set, hxl], htl, hki, hsd, blk_put (blk_below hgw hb2) i _ ?_, hbw.trans ((hb2.mono hBs).setCell hBg _)⟩
          rw [List.setIfInBounds_toArray, List.set_append_left _ _ (by rw [flatI_length]; omega), flatI, flatI, List.map_set]
end
section
open Go.RowKit Go.Proofs.YtgipepjpkmlmaaaW.PrintWords Go.Proofs.YtgipepjpkmlmaaaW.PrintLast Go.Proofs.YtgipepjpkmlmaaaW.PrintMore

/-- Where a row of windows lies. -/
theorem row46 {w : World} {B : Nat} {ok : Nat → Prop} {v : Value} {l : List S46} (hR : Kd.R k46 46 w B ok v l) (hl : 0 < l.length) :
    ∃ gr c tl, v = .slice (some ⟨gr, 0, none⟩) l.length c ∧ B ≤ gr ∧ ok gr ∧ l.length ≤ c ∧ c ≤ maxLen ∧ tl.length = c * 12 - l.length * 12 ∧ w.heap[gr]? = some (.cells (flat l ++ tl).toArray 46 (0, 0)) := by
  have ho := own_of_R hR
  rcases ho.2 with ⟨e, h0⟩ | ⟨g, cap, cur, e, h1, h2, h3, h4, h5, h6⟩
  · subst e
    omega
  · subst e
    refine ⟨g, cap, cur.toList.drop (l.length * 12), rfl, h1, hR.1 g rfl, h3, h4, by rw [List.length_drop, Array.length_toList, h5], ?_⟩
    rw [← h6, List.take_append_drop, Array.toArray_toList]
    exact h2
theorem row46_mk {w : World} {B : Nat} {ok : Nat → Prop} {l : List S46} {gr c : Nat} {tl : List Value} (h1 : B ≤ gr) (h2 : ok gr) (h3 : l.length ≤ c) (h4 : c ≤ maxLen) (h5 : tl.length = c * 12 - l.length * 12)
    (h6 : w.heap[gr]? = some (.cells (flat l ++ tl).toArray 46 (0, 0))) : Kd.R k46 46 w B ok (.slice (some ⟨gr, 0, none⟩) l.length c) l := by
  refine R_of_own ⟨by rw [flat_length], .inr ⟨gr, c, _, rfl, h1, h6, h3, h4, ?_, ?_⟩⟩ (fun k hk => by (have e : gr = k := by simpa [Value.ownBlock] using hk); subst e; exact h2)
  · rw [List.size_toArray, List.length_append, flat_length]
    omega
  · show List.take _ (flat l ++ tl) = _
    rw [← flat_length, List.take_left]
theorem set_mid (P M Q : List Value) (k n : Nat) (v : Value) (hn : n = P.length + k) (hk : k < M.length) : (P ++ (M ++ Q)).toArray.setIfInBounds n v = (P ++ (M.set k v ++ Q)).toArray := by
  subst hn
  rw [List.setIfInBounds_toArray, List.set_append_right _ _ (by omega), show P.length + k - P.length = k by omega, List.set_append_left _ _ hk]
/-- A row, parted at a window. -/
theorem flat_at (l : List S46) (i : Nat) (hi : i < l.length) (tl : List Value) : flat l ++ tl = flat (l.take i) ++ (c12 (rd_T46 l (i : Int)) ++ (flat (l.drop (i + 1)) ++ tl)) := by
  have e : rd_T46 l (i : Int) = l[i] := by simp [rd_T46, List.getD, List.getElem?_eq_getElem hi]
  have e2 : l = l.take i ++ l[i] :: l.drop (i + 1) := by rw [← List.drop_eq_getElem_cons hi, List.take_append_drop]
  conv => lhs; rw [e2, flat_append, flat_cons]
  rw [e]
  simp
theorem set_at (l : List S46) (i : Nat) (hi : i < l.length) (y : S46) (tl : List Value) : flat (l.set i y) ++ tl = flat (l.take i) ++ (c12 y ++ (flat (l.drop (i + 1)) ++ tl)) := by
  rw [List.set_eq_take_append_cons_drop, if_pos hi, flat_append, flat_cons]
  simp
theorem cell_at {w : World} {gr : Nat} {l : List S46} {tl : List Value} (h : w.heap[gr]? = some (.cells (flat l ++ tl).toArray 46 (0, 0))) (i : Nat) (hi : i < l.length) (k : Nat) (v : Value) (hv : (c12 (rd_T46 l (i : Int)))[k]? = some v) :
    w.cell? ⟨gr, i * 12 + k, none⟩ = some v := by
  have hk : k < 12 := (List.getElem?_eq_some_iff.1 hv).1
  have hP : (flat (l.take i)).length = i * 12 := by rw [flat_length, List.length_take, Nat.min_eq_left (by omega)]
  rw [blk_cell h, List.getElem?_toArray, flat_at l i hi tl, List.getElem?_append_right (by omega), hP, show i * 12 + k - i * 12 = k by omega, List.getElem?_append_left (by rw [c12_length]; exact hk)]
  exact hv
/-- A row of windows stays where another block is written. -/
theorem R_put46 {w : World} {B gs : Nat} {ok : Nat → Prop} {v : Value} {l : List S46} (h : Kd.R k46 46 w B ok v l) (hg : gs < B) (o : Nat) (x : Value) : Kd.R k46 46 (w.setCell ⟨gs, o, none⟩ x) B ok v l := by
  have ho := own_of_R h
  refine R_of_own ⟨ho.1, ?_⟩ h.1
  rcases ho.2 with e | ⟨g, cap, cur, e, h1, h2, h3⟩
  · exact .inl e
  · refine .inr ⟨g, cap, cur, e, h1, ?_, h3⟩
    rw [heap_setCell_other _ _ _ _ (show g ≠ gs by omega)]
    exact h2
end
end Go.Proofs.Ytgipepjpkmlmaaa.P
