import Derived.Test.YtgipepjpkmlmaaaQR2
import Derived.Test.YtgipepjpkmlmaaaQR3
import Derived.Test.YtgipepjpkmlmaaaQR4
import Derived.Test.YtgipepjpkmlmaaaQR6
import Derived.Test.YtgipepjpkmlmaaaQR7
import Derived.Test.YtgipepjpkmlmaaaQR8
import Derived.Test.YtgipepjpkmlmaaaQR11
namespace Go.Proofs.Ytgipepjpkmlmaaa.P
open Go.RowKit Go.Proofs.YtgipepjpkmlmaaaW.PrintWords Go.Proofs.YtgipepjpkmlmaaaW.PrintLast Go.Proofs.YtgipepjpkmlmaaaW.PrintMore
set_option linter.unusedVariables false
set_option linter.unusedSimpArgs false
theorem cell5s {w : World} {g t : Nat} {a0 a1 a2 a3 a4 : Value} (h : w.heap[g]? = some (.cells #[a0, a1, a2, a3, a4] t (0, 0))) :
    w.cell? ⟨g, 0, none⟩ = some a0 ∧ w.cell? ⟨g, 1, none⟩ = some a1 ∧ w.cell? ⟨g, 2, none⟩ = some a2 ∧ w.cell? ⟨g, 3, none⟩ = some a3 ∧ w.cell? ⟨g, 4, none⟩ = some a4 :=
  ⟨(blk_cell h 0).trans rfl, (blk_cell h 1).trans rfl, (blk_cell h 2).trans rfl, (blk_cell h 3).trans rfl, (blk_cell h 4).trans rfl⟩
theorem cell3s {w : World} {g t : Nat} {a0 a1 a2 : Value} (h : w.heap[g]? = some (.cells #[a0, a1, a2] t (0, 0))) :
    w.cell? ⟨g, 0, none⟩ = some a0 ∧ w.cell? ⟨g, 1, none⟩ = some a1 ∧ w.cell? ⟨g, 2, none⟩ = some a2 :=
  ⟨(blk_cell h 0).trans rfl, (blk_cell h 1).trans rfl, (blk_cell h 2).trans rfl⟩
/-- The boxes of the reference's Feed. -/
structure FR (w wc : World) (g : S23) (r : S50) (m la ba n : Int) (v4 : Value) : Prop where
  gg : wc.heap[w.heap.size]? = some (.cells #[.int .i64 g.f0, .int .i64 g.f1, .int .i64 g.f2] 23 (0, 0))
  gs : wc.heap[w.heap.size + 1]? = some (.cells #[.int .i64 m, .int .i64 la, .int .i64 ba, .int .i64 n, v4] 28 (0, 0))
  gr : wc.heap[w.heap.size + 2]? = some (.cells #[.int .i64 r.f0, .int .i64 r.f1, .string r.f2] 50 (0, 0))
  ge : wc.heap[w.heap.size + 3]? = some (.cells #[.int .i64 0, .int .i64 0, .int .i64 0, .int .i64 0, .slice none 0 0] 28 (0, 0))
  bl : Below w.heap.size w wc
theorem FR.below {w wc w' : World} {g : S23} {r : S50} {m la ba n : Int} {v4 : Value} (h : FR w wc g r m la ba n v4) (hb : Below wc.heap.size wc w') : FR w w' g r m la ba n v4 :=
  ⟨blk_below h.gg hb, blk_below h.gs hb, blk_below h.gr hb, blk_below h.ge hb, h.bl.trans (hb.mono h.bl.size)⟩
theorem FR.size {w wc : World} {g : S23} {r : S50} {m la ba n : Int} {v4 : Value} (h : FR w wc g r m la ba n v4) : w.heap.size + 4 ≤ wc.heap.size := by
  have := lt_of_block h.ge
  omega
theorem FR.put {w wc : World} {g : S23} {r : S50} {m la ba n m2 la2 ba2 n2 : Int} {v4 v42 u : Value} (h : FR w wc g r m la ba n v4) (o : Nat)
    (he : (#[Value.int .i64 m, .int .i64 la, .int .i64 ba, .int .i64 n, v4] : Array Value).setIfInBounds o u = #[.int .i64 m2, .int .i64 la2, .int .i64 ba2, .int .i64 n2, v42]) :
    FR w (wc.setCell ⟨w.heap.size + 1, o, none⟩ u) g r m2 la2 ba2 n2 v42 :=
  ⟨(heap_setCell_other _ _ _ _ (show w.heap.size ≠ w.heap.size + 1 by omega)).trans h.gg, (blk_put h.gs o u he).trans rfl, (heap_setCell_other _ _ _ _ (show w.heap.size + 2 ≠ w.heap.size + 1 by omega)).trans h.gr,
   (heap_setCell_other _ _ _ _ (show w.heap.size + 3 ≠ w.heap.size + 1 by omega)).trans h.ge, h.bl.setCell (show w.heap.size ≤ w.heap.size + 1 by omega) _⟩
/-- The windows so far: those handed in, or a row of one's own. -/
def LW (n : Nat) (w wc : World) (A0 : Option Addr) (c0 : Nat) (l0 : List S46) (v : Value) (l : List S46) : Prop :=
  ∃ A c, v = .slice A l.length c ∧ l.length ≤ c ∧ ((A = A0 ∧ c = c0 ∧ l = l0 ∧ k46.C w A l.length l ∧ Below w.heap.size w wc) ∨ Kd.R k46 46 wc w.heap.size (fun k => w.heap.size + n ≤ k) (.slice A l.length c) l)
section
variable {n : Nat} {w wc w' : World} {A0 : Option Addr} {c0 : Nat} {l0 : List S46} {v : Value} {l : List S46}
theorem LW.below (h : LW n w wc A0 c0 l0 v l) (hb : Below wc.heap.size wc w') (hs : w.heap.size ≤ wc.heap.size) : LW n w w' A0 c0 l0 v l := by
  obtain ⟨A, c, e, hc, h | h⟩ := h
  · exact ⟨A, c, e, hc, .inl ⟨h.1, h.2.1, h.2.2.1, h.2.2.2.1, h.2.2.2.2.trans (hb.mono hs)⟩⟩
  · exact ⟨A, c, e, hc, .inr (Kd.R_below h hb)⟩
theorem LW.put (h : LW n w wc A0 c0 l0 v l) (hn : 2 ≤ n) (o : Nat) (u : Value) : LW n w (wc.setCell ⟨w.heap.size + 1, o, none⟩ u) A0 c0 l0 v l := by
  obtain ⟨A, c, e, hc, h | h⟩ := h
  · exact ⟨A, c, e, hc, .inl ⟨h.1, h.2.1, h.2.2.1, h.2.2.2.1, h.2.2.2.2.setCell (show w.heap.size ≤ w.heap.size + 1 by omega) _⟩⟩
  · exact ⟨A, c, e, hc, .inr (R_other h (fun k hk => heap_setCell_other _ _ _ _ (show k ≠ w.heap.size + 1 by omega)))⟩
theorem LW.put5 (h : LW n w wc A0 c0 l0 v l) (g : Nat) (h0 : w.heap.size ≤ g) (h1 : g < w.heap.size + n) (a0 a1 a2 a3 a4 : Value) : LW n w (put5 wc g a0 a1 a2 a3 a4) A0 c0 l0 v l := by
  obtain ⟨A, c, e, hc, h | h⟩ := h
  · exact ⟨A, c, e, hc, .inl ⟨h.1, h.2.1, h.2.2.1, h.2.2.2.1, put5_below h.2.2.2.2 h0 _ _ _ _ _⟩⟩
  · exact ⟨A, c, e, hc, .inr (R_other h (fun k hk => put5_other (by omega) _ _ _ _ _))⟩
theorem LW.reads (h : LW n w wc A0 c0 l0 v l) : ∃ A c, v = .slice A l.length c ∧ l.length ≤ c ∧ k46.C wc A l.length l := by
  obtain ⟨A, c, e, hc, h | h⟩ := h
  · exact ⟨A, c, e, hc, Kd.C_below h.2.2.2.1 h.2.2.2.2⟩
  · exact ⟨A, c, e, hc, (Kd.R_reads' h).2.2⟩
/-- What a Feed leaves, seen from its caller. -/
theorem LW.step {m : Nat} {wq wr : World} {A1 : Option Addr} {c1 : Nat} {l1 : List S46} {v2 : Value} {l2 : List S46} (h : LW n w wq A0 c0 l0 (.slice A1 l1.length c1) l1) (h2 : LW m wq wr A1 c1 l1 v2 l2) (hb : Below wq.heap.size wq wr)
    (hs : w.heap.size + n ≤ wq.heap.size) : LW n w wr A0 c0 l0 v2 l2 := by
  obtain ⟨A, c, e, hc, h2 | h2⟩ := h2
  · obtain ⟨rfl, rfl, rfl, _⟩ := h2
    rw [e]
    exact h.below hb (by omega)
  · exact ⟨A, c, e, hc, .inr (R_ok (R_base h2 (show w.heap.size ≤ _ by omega) (show w.heap.size + n ≤ _ by omega)) (fun _ hk => hk))⟩
end
theorem LW.nil (n : Nat) (w wc : World) (A0 : Option Addr) (c0 : Nat) (l0 : List S46) : LW n w wc A0 c0 l0 (.slice none 0 0) [] := ⟨none, 0, rfl, Nat.zero_le _, .inr (Kd.R_nil _ _ _ _ _)⟩
/-- What the reference's Feed leaves. -/
def FedR (w : World) (A0 : Option Addr) (c0 : Nat) (l0 : List S46) (p : S28 × List S46 × Int) (e : Ending) (w' : World) : Prop :=
  ∃ v4 vo, e = .returned (.tuple #[.agg #[.int .i64 p.1.f0, .int .i64 p.1.f1, .int .i64 p.1.f2, .int .i64 p.1.f3, v4], vo, .int .i64 p.2.2]) ∧ LW 4 w w' A0 c0 l0 v4 p.1.f4 ∧ Kd.R k46 46 w' w.heap.size (fun _ => True) vo p.2.1 ∧ Below w.heap.size w w'
/-- A row is what it was where another one has grown. -/
theorem row_keep {w w1 : World} {B : Nat} {ok : Nat → Prop} {v : Value} {l : List S46} {row : Option Nat} (h : Kd.R k46 46 w B ok v l) (hg : w.grownBy w1 row) (hne : ∀ k, v.ownBlock = some k → row ≠ some k) : Kd.R k46 46 w1 B ok v l := by
  refine R_of_own ⟨(own_of_R h).1, ?_⟩ h.1
  rcases (own_of_R h).2 with e | ⟨g, cap, cur, e, h1, h2, h3⟩
  · exact .inl e
  · exact .inr ⟨g, cap, cur, e, h1, blk_grown h2 hg (fun x => hne g (by rw [e]; rfl) x.symm), h3⟩
theorem row_two {W w8 : World} {B : Nat} {v v8 vo : Value} {lo : List S46} (h : Kd.R k46 46 W B (fun _ => True) vo lo) (hg : W.grownBy w8 v.ownBlock) (hat : v8.ownBlock = v.ownBlock ∨ ∃ b, v8.ownBlock = some b ∧ W.heap.size ≤ b)
    (hd : ∀ k, vo.ownBlock = some k → v.ownBlock ≠ some k) : Kd.R k46 46 w8 B (fun _ => True) vo lo ∧ (∀ k, vo.ownBlock = some k → v8.ownBlock ≠ some k) := by
  refine ⟨row_keep h hg hd, fun k hk => ?_⟩
  rcases hat with e | ⟨b, e, hb⟩
  · rw [e]
    exact hd k hk
  · rw [e]
    intro h2
    have : b = k := Option.some.inj h2
    subst this
    rcases (own_of_R h).2 with ⟨e2, _⟩ | ⟨g, cap, cur, e2, h1, h3, _⟩
    · subst e2
      cases hk
    · subst e2
      have : g = b := by simpa [Value.ownBlock] using hk
      have := lt_of_block h3
      omega
theorem filter_snoc (p : S46 → Bool) (l : List S46) (i : Nat) (h : i < l.length) : (l.take (i + 1)).filter p = (l.take i).filter p ++ if p (rd_T46 l (i : Int)) = true then [rd_T46 l (i : Int)] else [] := by
  rw [List.take_succ_eq_append_getElem h, List.filter_append, rd_get l i h]
  cases hp : p l[i] <;> simp [hp]
theorem takeS_aggI (key v t : Int) (l : List S46) (hs : srt l) (h : ∀ c ∈ l, aggI c.f2) : ∀ c ∈ takeS key v t l, aggI c.f2 := by
  intro c hc
  obtain ⟨p1, _⟩ := place l ⟨key, t, z44⟩ hs
  unfold takeS at hc
  simp only at hc
  have hle : bsI l ⟨key, t, z44⟩ ≤ l.length := bsL_le l _ (l.length + 1) 0 l.length (Nat.zero_le _)
  cases hb : bsF l ⟨key, t, z44⟩ with
  | true =>
    rw [hb, if_pos rfl] at hc
    rcases List.mem_or_eq_of_mem_set hc with h1 | rfl
    · exact h c h1
    · have hi := (p1 hb).1
      refine aggI_add ?_ v
      rw [rd_get l _ hi]
      exact h _ (List.getElem_mem hi)
  | false =>
    rw [hb, if_neg (by decide)] at hc
    rcases List.mem_or_eq_of_mem_set hc with h1 | rfl
    · rcases List.mem_append.1 h1 with h2 | h2
      · exact h c (List.mem_of_mem_take h2)
      · rcases List.mem_cons.1 h2 with rfl | h3
        · exact aggI_zero
        · exact h c (List.mem_of_mem_drop h3)
    · refine aggI_add ?_ v
      have hlen : (l.take (bsI l ⟨key, t, z44⟩)).length = bsI l ⟨key, t, z44⟩ := by rw [List.length_take]; omega
      rw [rd_get _ _ (by simp; omega), List.getElem_append_right (by omega)]
      simp only [hlen, Nat.sub_self]
      exact aggI_zero
theorem takeN_aggI (key v : Int) : ∀ (ts : List Int) (l : List S46), srt l → (∀ c ∈ l, aggI c.f2) → ∀ c ∈ takeN key v ts l, aggI c.f2
  | [], l, _, h => h
  | t :: ts, l, hs, h => takeN_aggI key v ts (takeS key v t l) (takeS_srt key v t l hs) (takeS_aggI key v t l hs h)
theorem takeN_snoc (key v t : Int) (ts : List Int) (l : List S46) : takeN key v (ts ++ [t]) l = takeS key v t (takeN key v ts l) := by
  unfold takeN
  rw [List.foldl_append]
  rfl
theorem keepI_snoc (g : S23) (m : Int) (S : List Int) (i : Nat) (h : i < S.length) : keepI g m (S.take (i + 1)) = keepI g m (S.take i) ++ if closedP g (rd S (i : Int)) m = true then [] else [rd S (i : Int)] := by
  unfold keepI
  rw [List.take_succ_eq_append_getElem h, List.filter_append, rdI S i h]
  cases hc : closedP g S[i] m <;> simp [hc]
/-- What a state must be for the reference, too. -/
structure InvR (g : S23) (s : S28) : Prop where
  inv : Inv g s
  agg : ∀ c ∈ s.f4, aggI c.f2
theorem invR_zero {g : S23} (h : chkG g = true) : InvR g awZ := ⟨inv_zero h, fun c hc => by cases hc⟩
theorem invR_feed {g : S23} {s : S28} {r : S50} (h : InvR g s) (hn : s.f3 < 1000000) (he : (feedP g s r).2.2 = 0) : InvR g (feedP g s r).1 := by
  refine ⟨inv_feed h.inv hn he, ?_⟩
  unfold feedP
  split
  · split
    · intro c hc; cases hc
    · split
      · intro c hc
        have h1 := (List.mem_filter.1 hc).1
        split at h1
        · exact h.agg c h1
        · exact takeN_aggI _ _ _ _ h.inv.ord h.agg c h1
      · exact h.agg
  · intro c hc; cases hc
end Go.Proofs.Ytgipepjpkmlmaaa.P
