import Derived.Test.YtgipepjpkmlmaaaQR2
import Derived.Test.YtgipepjpkmlmaaaQR3
import Derived.Test.YtgipepjpkmlmaaaQR4
import Derived.Test.YtgipepjpkmlmaaaQR5
import Derived.Test.YtgipepjpkmlmaaaQR6
import Derived.Test.YtgipepjpkmlmaaaQR7
import Derived.Test.YtgipepjpkmlmaaaQR8
import Derived.Test.YtgipepjpkmlmaaaQR11
import Derived.Test.YtgipepjpkmlmaaaQR13
import Derived.Test.YtgipepjpkmlmaaaQR15
namespace Go.Proofs.Ytgipepjpkmlmaaa.P
open Go.RowKit Go.Proofs.YtgipepjpkmlmaaaW.PrintWords Go.Proofs.YtgipepjpkmlmaaaW.PrintLast Go.Proofs.YtgipepjpkmlmaaaW.PrintMore
set_option linter.unusedVariables false
set_option linter.unusedSimpArgs false
theorem LW.step2 {n m : Nat} {w WX wq wr wf : World} {A0 A1 : Option Addr} {c0 c1 : Nat} {l0 l1 l2 : List S46} {v2 : Value} (h : LW n w WX A0 c0 l0 (.slice A1 l1.length c1) l1) (hS : Below WX.heap.size WX wf) (h2 : LW m wq wr A1 c1 l1 v2 l2)
    (hr : ∀ vr, Kd.R k46 46 wr wq.heap.size (fun k => wq.heap.size + m ≤ k) vr l2 → Kd.R k46 46 wf wq.heap.size (fun k => wq.heap.size + m ≤ k) vr l2) (hs : w.heap.size + n ≤ WX.heap.size) (hq : WX.heap.size ≤ wq.heap.size) : LW n w wf A0 c0 l0 v2 l2 ∧ (v2 = .slice A1 l1.length c1 ∨ ∀ k, v2.ownBlock = some k → WX.heap.size ≤ k) := by
  obtain ⟨A, c, e, hc, h2 | h2⟩ := h2
  · obtain ⟨rfl, rfl, rfl, _⟩ := h2
    rw [e]
    exact ⟨h.below hS (by omega), .inl rfl⟩
  · refine ⟨⟨A, c, e, hc, .inr (R_ok (R_base (hr _ h2) (show w.heap.size ≤ _ by omega) (show w.heap.size + n ≤ _ by omega)) (fun _ hk => hk))⟩, .inr (fun k hk => ?_)⟩
    rw [e] at hk
    have := h2.1 k hk
    simp only at this
    omega
/-- The windows' row is what it was where another one has grown. -/
theorem LW.keep {n : Nat} {w W w8 : World} {A0 : Option Addr} {c0 : Nat} {l0 l : List S46} {v : Value} {row : Option Nat} (h : LW n w W A0 c0 l0 v l) (hb : Below w.heap.size w w8) (hg : W.grownBy w8 row) (hd : ∀ k, v.ownBlock = some k → w.heap.size + n ≤ k → row ≠ some k) : LW n w w8 A0 c0 l0 v l := by
  obtain ⟨A, c, e, hc, h | h⟩ := h
  · exact ⟨A, c, e, hc, .inl ⟨h.1, h.2.1, h.2.2.1, h.2.2.2.1, hb⟩⟩
  · refine ⟨A, c, e, hc, .inr (row_keep h hg (fun k hk => hd k (by rw [e]; exact hk) (h.1 k hk)))⟩
theorem LW.lt {n : Nat} {w W : World} {A0 : Option Addr} {c0 : Nat} {l0 l : List S46} {v : Value} (h : LW n w W A0 c0 l0 v l) : ∀ k, v.ownBlock = some k → w.heap.size + n ≤ k → k < W.heap.size ∨ v = .slice A0 l0.length c0 := by
  intro k hk hn
  obtain ⟨A, c, e, hc, h | h⟩ := h
  · obtain ⟨rfl, rfl, rfl, _⟩ := h
    exact .inr e
  · rcases (own_of_R h).2 with ⟨e2, _⟩ | ⟨g, cap, cur, e2, h1, h3, _⟩
    · rw [e, e2] at hk; cases hk
    · rw [e, e2] at hk
      have : g = k := by simpa [Value.ownBlock] using hk
      have := lt_of_block h3
      exact .inl (by omega)
/-- The boxes of the reference's Run. -/
structure RR (w wc : World) (g : S23) (m la ba n : Int) (v4 : Value) : Prop where
  gg : wc.heap[w.heap.size]? = some (.cells #[.int .i64 g.f0, .int .i64 g.f1, .int .i64 g.f2] 23 (0, 0))
  gs : wc.heap[w.heap.size + 1]? = some (.cells #[.int .i64 m, .int .i64 la, .int .i64 ba, .int .i64 n, v4] 28 (0, 0))
  ge : wc.heap[w.heap.size + 2]? = some (.cells #[.int .i64 0, .int .i64 0, .int .i64 0, .int .i64 0, .slice none 0 0] 28 (0, 0))
  bl : Below w.heap.size w wc
theorem RR.below {w wc w' : World} {g : S23} {m la ba n : Int} {v4 : Value} (h : RR w wc g m la ba n v4) (hb : Below wc.heap.size wc w') : RR w w' g m la ba n v4 :=
  ⟨blk_below h.gg hb, blk_below h.gs hb, blk_below h.ge hb, h.bl.trans (hb.mono h.bl.size)⟩
theorem RR.size {w wc : World} {g : S23} {m la ba n : Int} {v4 : Value} (h : RR w wc g m la ba n v4) : w.heap.size + 3 ≤ wc.heap.size := by
  have := lt_of_block h.ge
  omega
theorem RR.put {w wc : World} {g : S23} {m la ba n m2 la2 ba2 n2 : Int} {v4 v42 : Value} (h : RR w wc g m la ba n v4) : RR w (put5 wc (w.heap.size + 1) (.int .i64 m2) (.int .i64 la2) (.int .i64 ba2) (.int .i64 n2) v42) g m2 la2 ba2 n2 v42 :=
  ⟨(put5_other (by omega) _ _ _ _ _).trans h.gg, put5_heap h.gs _ _ _ _ _, (put5_other (by omega) _ _ _ _ _).trans h.ge, put5_below h.bl (by omega) _ _ _ _ _⟩
end Go.Proofs.Ytgipepjpkmlmaaa.P
