import Derived.Test.YtgipepjpkmlmaaaEZ
import Derived.Test.YtgipepjpkmlmaaaF54
import Derived.Test.YtgipepjpkmlmaaaM1
namespace Go.Proofs.Ytgipepjpkmlmaaa.P
open Go.RowKit Go.Proofs.YtgipepjpkmlmaaaW.PrintWords Go.Proofs.YtgipepjpkmlmaaaW.PrintLast Go.Proofs.YtgipepjpkmlmaaaW.PrintMore
set_option linter.unusedVariables false
set_option linter.unusedSimpArgs false

theorem R_base {w : World} {B b c : Nat} {ok : Nat → Prop} {v : Value} {l : List S46} (h : Kd.R k46 46 w B ok v l) (hb : b ≤ B) (hc : c ≤ B) : Kd.R k46 46 w b (fun k => c ≤ k) v l := by
  have ho := own_of_R h
  have h2 : w.ownsRow b 46 12 v l.length (flat l) := by
    refine ⟨ho.1, ?_⟩
    rcases ho.2 with e | ⟨g, cap, cur, e, h1, h3⟩
    · exact .inl e
    · exact .inr ⟨g, cap, cur, e, by omega, h3⟩
  refine R_of_own h2 (fun k hk => ?_)
  rcases ho.2 with ⟨e, _⟩ | ⟨g, cap, cur, e, h1, h3⟩
  · subst e
    simp [Value.ownBlock] at hk
  · subst e
    have e2 : g = k := by simpa [Value.ownBlock] using hk
    omega
theorem R_ok {w : World} {B : Nat} {ok ok2 : Nat → Prop} {v : Value} {l : List S46} (h : Kd.R k46 46 w B ok v l) (hk : ∀ k, ok k → ok2 k) : Kd.R k46 46 w B ok2 v l := ⟨fun k e => hk k (h.1 k e), h.2⟩
theorem R_nil26 {w : World} {B : Nat} {ok : Nat → Prop} {A : Option Addr} {c : Nat} {l : List S46} (h : Kd.R k46 46 w B ok (.slice A l.length c) l) : A = none → l = [] ∧ c = 0 := by
  rintro rfl
  rcases (own_of_R h).2 with ⟨e, h0⟩ | ⟨g, cap, cur, e, _⟩
  · injection e with _ _ e3
    exact ⟨List.eq_nil_of_length_eq_zero h0, e3⟩
  · cases e
/-- Five cells, written. -/
def put5 (w : World) (g : Nat) (a0 a1 a2 a3 a4 : Value) : World := ((((w.setCell ⟨g, 0, none⟩ a0).setCell ⟨g, 1, none⟩ a1).setCell ⟨g, 2, none⟩ a2).setCell ⟨g, 3, none⟩ a3).setCell ⟨g, 4, none⟩ a4
theorem put5_heap {w : World} {g : Nat} {b0 b1 b2 b3 b4 : Value} (h : w.heap[g]? = some (.cells #[b0, b1, b2, b3, b4] 28 (0, 0))) (a0 a1 a2 a3 a4 : Value) : (put5 w g a0 a1 a2 a3 a4).heap[g]? = some (.cells #[a0, a1, a2, a3, a4] 28 (0, 0)) := by
  unfold put5
  have g1 := blk_put h 0 a0 rfl
  have g2 := blk_put g1 1 a1 rfl
  have g3 := blk_put g2 2 a2 rfl
  have g4 := blk_put g3 3 a3 rfl
  exact blk_put g4 4 a4 rfl
theorem put5_below {B g : Nat} {w0 w : World} (h : Below B w0 w) (hg : B ≤ g) (a0 a1 a2 a3 a4 : Value) : Below B w0 (put5 w g a0 a1 a2 a3 a4) := by
  unfold put5
  exact ((((h.setCell hg _).setCell hg _).setCell hg _).setCell hg _).setCell hg _
theorem put5_other {w : World} {g k : Nat} (h : k ≠ g) (a0 a1 a2 a3 a4 : Value) : (put5 w g a0 a1 a2 a3 a4).heap[k]? = w.heap[k]? := by
  unfold put5
  simp only [heap_setCell_other _ (⟨g, 0, none⟩ : Addr) k _ h, heap_setCell_other _ (⟨g, 1, none⟩ : Addr) k _ h, heap_setCell_other _ (⟨g, 2, none⟩ : Addr) k _ h, heap_setCell_other _ (⟨g, 3, none⟩ : Addr) k _ h, heap_setCell_other _ (⟨g, 4, none⟩ : Addr) k _ h]
theorem R_other {w w' : World} {B : Nat} {ok : Nat → Prop} {v : Value} {l : List S46} (h : Kd.R k46 46 w B ok v l) (ho : ∀ k, ok k → w'.heap[k]? = w.heap[k]?) : Kd.R k46 46 w' B ok v l := by
  refine R_of_own ⟨(own_of_R h).1, ?_⟩ h.1
  rcases (own_of_R h).2 with e | ⟨g, cap, cur, e, h1, h2, h3⟩
  · exact .inl e
  · exact .inr ⟨g, cap, cur, e, h1, (ho g (h.1 g (by rw [e]; rfl))).trans h2, h3⟩
/-- Feed's boxes. -/
structure FeedW (w wc : World) (g : S23) (r : S50) (m la ba n : Int) (v4 : Value) (l : List S46) : Prop where
  gg : wc.heap[w.heap.size]? = some (.cells #[.int .i64 g.f0, .int .i64 g.f1, .int .i64 g.f2] 23 (0, 0))
  gs : wc.heap[w.heap.size + 1]? = some (.cells #[.int .i64 m, .int .i64 la, .int .i64 ba, .int .i64 n, v4] 28 (0, 0))
  gr : wc.heap[w.heap.size + 2]? = some (.cells #[.int .i64 r.f0, .int .i64 r.f1, .string r.f2] 50 (0, 0))
  ge : wc.heap[w.heap.size + 3]? = some (.cells #[.int .i64 0, .int .i64 0, .int .i64 0, .int .i64 0, .slice none 0 0] 28 (0, 0))
  bl : Below w.heap.size w wc
  row : Kd.R k46 46 wc w.heap.size (fun k => w.heap.size + 4 ≤ k) v4 l
theorem FeedW.below {w wc w' : World} {g : S23} {r : S50} {m la ba n : Int} {v4 : Value} {l : List S46} (h : FeedW w wc g r m la ba n v4 l) (hb : Below wc.heap.size wc w') : FeedW w w' g r m la ba n v4 l :=
  ⟨blk_below h.gg hb, blk_below h.gs hb, blk_below h.gr hb, blk_below h.ge hb, h.bl.trans (hb.mono h.bl.size), Kd.R_below h.row hb⟩
theorem FeedW.size {w wc : World} {g : S23} {r : S50} {m la ba n : Int} {v4 : Value} {l : List S46} (h : FeedW w wc g r m la ba n v4 l) : w.heap.size + 4 ≤ wc.heap.size := by
  have := lt_of_block h.ge
  omega
theorem FeedW.put {w wc : World} {g : S23} {r : S50} {m la ba n m2 la2 ba2 n2 : Int} {v4 u : Value} {l : List S46} (h : FeedW w wc g r m la ba n v4 l) (o : Nat)
    (he : (#[Value.int .i64 m, .int .i64 la, .int .i64 ba, .int .i64 n, v4] : Array Value).setIfInBounds o u = #[.int .i64 m2, .int .i64 la2, .int .i64 ba2, .int .i64 n2, v4]) :
    FeedW w (wc.setCell ⟨w.heap.size + 1, o, none⟩ u) g r m2 la2 ba2 n2 v4 l :=
  ⟨(heap_setCell_other _ _ _ _ (show w.heap.size ≠ w.heap.size + 1 by omega)).trans h.gg, (blk_put h.gs o u he).trans rfl, (heap_setCell_other _ _ _ _ (show w.heap.size + 2 ≠ w.heap.size + 1 by omega)).trans h.gr,
   (heap_setCell_other _ _ _ _ (show w.heap.size + 3 ≠ w.heap.size + 1 by omega)).trans h.ge, h.bl.setCell (show w.heap.size ≤ w.heap.size + 1 by omega) _, R_other h.row (fun k hk => heap_setCell_other _ _ _ _ (show k ≠ w.heap.size + 1 by omega))⟩
/-- The cells' row, put into the state's box. -/
theorem FeedW.put4 {w wc : World} {g : S23} {r : S50} {m la ba n : Int} {v4 v5 : Value} {l l2 : List S46} (h : FeedW w wc g r m la ba n v4 l) (hR : Kd.R k46 46 wc w.heap.size (fun k => w.heap.size + 4 ≤ k) v5 l2) :
    FeedW w (wc.setCell ⟨w.heap.size + 1, 4, none⟩ v5) g r m la ba n v5 l2 :=
  ⟨(heap_setCell_other _ _ _ _ (show w.heap.size ≠ w.heap.size + 1 by omega)).trans h.gg, blk_put h.gs 4 v5 rfl, (heap_setCell_other _ _ _ _ (show w.heap.size + 2 ≠ w.heap.size + 1 by omega)).trans h.gr,
   (heap_setCell_other _ _ _ _ (show w.heap.size + 3 ≠ w.heap.size + 1 by omega)).trans h.ge, h.bl.setCell (show w.heap.size ≤ w.heap.size + 1 by omega) _, R_other hR (fun k hk => heap_setCell_other _ _ _ _ (show k ≠ w.heap.size + 1 by omega))⟩
/-- A moment's beginnings. -/
def stAt (g : S23) (t : Int) (k : Int) : Int := wrap64 (wrap64 (wrap64 (t - Int.tmod t g.f1) - g.f0) + wrap64 (g.f1 * wrap64 (k + 1)))
def startL (g : S23) (t : Int) : Nat → Int → List Int
  | 0, _ => []
  | k + 1, i => if stAt g t i ≥ 0 then stAt g t i :: startL g t k (i + 1) else startL g t k (i + 1)
def startsP (g : S23) (t : Int) : List Int := startL g t (wrap64 (Int.tdiv g.f0 g.f1)).toNat 0
theorem startL_length (g : S23) (t : Int) : ∀ k i, (startL g t k i).length ≤ k := by
  intro k
  induction k with
  | zero => intro i; simp [startL]
  | succ k ih =>
    intro i
    have := ih (i + 1)
    unfold startL
    split <;> simp <;> omega
theorem chkG_spec {g : S23} (h : chkG g = true) : 1 ≤ g.f0 ∧ g.f0 ≤ 1048576 ∧ 1 ≤ g.f1 ∧ g.f1 ≤ g.f0 ∧ Int.tmod g.f0 g.f1 = 0 ∧ wrap64 (Int.tdiv g.f0 g.f1) ≤ 8 ∧ 0 ≤ g.f2 ∧ g.f2 ≤ 1048576 := of_decide_eq_true h
theorem starts_l (g : S23) (t n : Int) (h1 : g.f1 ≠ 0) (hn : n ≤ 8) : ∀ (k : Nat) (i : Int) (x : List Int), 0 ≤ i → n - i = (k : Int) ∨ (n ≤ i ∧ k = 0) → x.length ≤ i.toNat →
    grid_Starts.l0 (k + 1) t x n i g.f0 g.f1 g.f2 = some (x ++ startL g t k i, 0) := by
  intro k
  induction k with
  | zero =>
    intro i x h0 hk hx
    rw [grid_Starts.l0, if_neg (by omega)]
    simp [startL]
  | succ k ih =>
    intro i x h0 hk hx
    have hk : n - i = ((k + 1 : Nat) : Int) := by rcases hk with h | ⟨_, h⟩ <;> omega
    have hw : wrap64 (i + 1) = i + 1 := by unfold wrap64; omega
    rw [grid_Starts.l0, if_pos (by omega), if_neg h1]
    unfold startL
    rw [show wrap64 (wrap64 (wrap64 (t - Int.tmod t g.f1) - g.f0) + wrap64 (g.f1 * wrap64 (i + 1))) = stAt g t i from rfl]
    by_cases c : stAt g t i ≥ 0
    · rw [if_pos c, if_pos c, if_pos (by omega), hw]
      rw [ih (i + 1) (x ++ [stAt g t i]) (by omega) (by omega) (by simp; omega)]
      simp
    · rw [if_neg c, if_neg c, hw]
      exact ih (i + 1) x (by omega) (by omega) (by omega)
theorem starts_f (g : S23) (t : Int) (hg : chkG g = true) (h0 : 0 ≤ t) (h1 : t ≤ 1099511627776) : ∃ k, grid_Starts.f k g.f0 g.f1 g.f2 t = some (startsP g t, 0) := by
  obtain ⟨a0, a1, a2, a3, a4, a5, a6, a7⟩ := chkG_spec hg
  have ht : wrap64 (Int.tdiv g.f0 g.f1) = ((wrap64 (Int.tdiv g.f0 g.f1)).toNat : Int) ∨ wrap64 (Int.tdiv g.f0 g.f1) ≤ 0 ∧ (wrap64 (Int.tdiv g.f0 g.f1)).toNat = 0 := by omega
  refine ⟨(wrap64 (Int.tdiv g.f0 g.f1)).toNat + 1 + 1, ?_⟩
  unfold grid_Starts.f
  rw [check_f, hg]
  rw [Option.bind_some, show argE true = 0 from rfl, if_pos rfl, if_neg (by omega), show decide (t > 1099511627776) = false from decide_eq_false (by omega), grid_Starts.j0, if_neg (by decide), if_neg (by omega)]
  have := starts_l g t (wrap64 (Int.tdiv g.f0 g.f1)) (by omega) a5 (wrap64 (Int.tdiv g.f0 g.f1)).toNat 0 [] (by omega) (by omega) (by simp)
  simpa [startsP] using this
theorem starts_calls (g : S23) (t : Int) (hg : chkG g = true) (h0 : 0 ≤ t) (h1 : t ≤ 1099511627776) (w : World) :
    Calls Try.prog 54 #[gridV g, .int .i64 t] w fun e w' => ∃ v0_ : Value, e = .returned (.tuple #[v0_, .int .i64 0]) ∧ Kd.R (Kd.int .i64) 3 w' w.heap.size (fun _ => True) v0_ (startsP g t) ∧ Below w.heap.size w w' := by
  obtain ⟨k, hk⟩ := starts_f g t hg h0 h1
  exact grid_Starts.calls k g.f0 g.f1 g.f2 t (startsP g t) 0 w hk
theorem startsP_length (g : S23) (t : Int) (hg : chkG g = true) : (startsP g t).length ≤ 8 := by
  have := startL_length g t (wrap64 (Int.tdiv g.f0 g.f1)).toNat 0
  have := (chkG_spec hg).2.2.2.2.2.1
  unfold startsP
  omega
end Go.Proofs.Ytgipepjpkmlmaaa.P
