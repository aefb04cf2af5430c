import Derived.Test.YtgipepjpkmlmaaaM6
import Derived.Test.YtgipepjpkmlmaaaE6
import Derived.Test.YtgipepjpkmlmaaaF22
namespace Go.Proofs.Ytgipepjpkmlmaaa.P
set_option linter.unusedVariables false
set_option linter.unusedSimpArgs false
section
open Go.RowKit Go.Proofs.YtgipepjpkmlmaaaW.PrintWords Go.Proofs.YtgipepjpkmlmaaaW.PrintLast Go.Proofs.YtgipepjpkmlmaaaW.PrintMore

/-- One window stands ahead of another one. -/
def ltC (x y : S46) : Prop := x.f1 < y.f1 ∨ (x.f1 = y.f1 ∧ x.f0 < y.f0)
theorem ltC_trans {x y z : S46} (h : ltC x y) (k : ltC y z) : ltC x z := by unfold ltC at *; omega
theorem ordP_lt (x y : S46) : ordP x y < 0 ↔ ltC x y := by
  unfold ordP cmpP ltC
  split <;> split <;> (try split) <;> (try split) <;> omega
theorem ordP_eq (x y : S46) : ordP x y = 0 ↔ x.f1 = y.f1 ∧ x.f0 = y.f0 := by
  unfold ordP cmpP
  split <;> split <;> (try split) <;> (try split) <;> omega
/-- Rows of windows in order. -/
def srt (l : List S46) : Prop := ∀ i j : Nat, i < j → j < l.length → ltC (rd_T46 l (i : Int)) (rd_T46 l (j : Int))
theorem bsL_spec (l : List S46) (t : S46) (hs : srt l) : ∀ f i j, j - i < f → i ≤ j → j ≤ l.length → (∀ m, m < i → ltC (rd_T46 l (m : Int)) t) → (∀ m, j ≤ m → m < l.length → ¬ ltC (rd_T46 l (m : Int)) t) →
    (∀ m, m < bsL l t f i j → ltC (rd_T46 l (m : Int)) t) ∧ (∀ m, bsL l t f i j ≤ m → m < l.length → ¬ ltC (rd_T46 l (m : Int)) t) := by
  intro f
  induction f with
  | zero => intro i j h; omega
  | succ f ih =>
    intro i j hf hij hjl hlo hhi
    rw [bsL]
    by_cases c : i < j
    · rw [if_pos c]
      by_cases d : ordP (rd_T46 l (((i + j) / 2 : Nat) : Int)) t < 0
      · rw [if_pos d]
        have d2 := (ordP_lt _ _).1 d
        refine ih _ _ (by omega) (by omega) hjl (fun m hm => ?_) hhi
        by_cases e : m = (i + j) / 2
        · rw [e]; exact d2
        · exact ltC_trans (hs m ((i + j) / 2) (by omega) (by omega)) d2
      · rw [if_neg d]
        have d2 : ¬ ltC (rd_T46 l (((i + j) / 2 : Nat) : Int)) t := fun h => d ((ordP_lt _ _).2 h)
        refine ih _ _ (by omega) (by omega) (by omega) hlo (fun m hm hml h => ?_)
        by_cases e : m = (i + j) / 2
        · rw [e] at h; exact d2 h
        · exact d2 (ltC_trans (hs ((i + j) / 2) m (by omega) hml) h)
    · rw [if_neg c]
      exact ⟨hlo, fun m hm hml => hhi m (by omega) hml⟩
theorem bsI_spec (l : List S46) (t : S46) (hs : srt l) : (∀ m, m < bsI l t → ltC (rd_T46 l (m : Int)) t) ∧ (∀ m, bsI l t ≤ m → m < l.length → ¬ ltC (rd_T46 l (m : Int)) t) :=
  bsL_spec l t hs (l.length + 1) 0 l.length (by omega) (by omega) (by omega) (fun m h => by omega) (fun m h h2 => by omega)
theorem rd_get (l : List S46) (i : Nat) (h : i < l.length) : rd_T46 l (i : Int) = l[i] := rd46 l i h
/-- The key and the beginning of a window. -/
def keyC (c : S46) : Int × Int := (c.f0, c.f1)
theorem ltC_key {x y x2 y2 : S46} (h : ltC x y) (e1 : keyC x2 = keyC x) (e2 : keyC y2 = keyC y) : ltC x2 y2 := by
  unfold keyC at e1 e2
  injection e1 with a b
  injection e2 with c d
  unfold ltC at *
  omega
theorem srt_iff (l : List S46) : srt l ↔ l.Pairwise ltC := by
  rw [List.pairwise_iff_getElem]
  constructor
  · intro h i j hi hj hij
    have := h i j hij hj
    rwa [rd_get l i hi, rd_get l j hj] at this
  · intro h i j hij hj
    rw [rd_get l i (by omega), rd_get l j hj]
    exact h i j (by omega) hj hij
/-- One window's place in a row in order: it is found, or it may stand there. -/
theorem place (l : List S46) (x : S46) (hs : srt l) : (bsF l x = true → bsI l x < l.length ∧ keyC (rd_T46 l (bsI l x : Int)) = keyC x) ∧
    (bsF l x = false → (l.take (bsI l x) ++ x :: l.drop (bsI l x)).Pairwise ltC) := by
  obtain ⟨h1, h2⟩ := bsI_spec l x hs
  have hp := (srt_iff l).1 hs
  constructor
  · intro hf
    unfold bsF at hf
    simp only [Bool.and_eq_true, decide_eq_true_eq, beq_iff_eq] at hf
    obtain ⟨a, b⟩ := (ordP_eq _ _).1 hf.2
    exact ⟨hf.1, by unfold keyC; rw [a, b]⟩
  · intro hf
    have hlt : ∀ y ∈ l.take (bsI l x), ltC y x := by
      intro y hy
      obtain ⟨i, hi, rfl⟩ := List.getElem_of_mem hy
      rw [List.length_take] at hi
      have := h1 i (by omega)
      rw [rd_get l i (by omega)] at this
      rw [List.getElem_take]
      exact this
    have hgt : ∀ y ∈ l.drop (bsI l x), ltC x y := by
      intro y hy
      obtain ⟨i, hi, rfl⟩ := List.getElem_of_mem hy
      rw [List.length_drop] at hi
      rw [List.getElem_drop]
      have hR : bsI l x < l.length := by omega
      have hne : ¬ ordP (rd_T46 l (bsI l x : Int)) x = 0 := by
        intro e
        unfold bsF at hf
        rw [decide_eq_true hR, e] at hf
        cases hf
      have hge := h2 (bsI l x) (Nat.le_refl _) hR
      rw [← ordP_lt] at hge
      have hx : ltC x (rd_T46 l (bsI l x : Int)) := by
        have q1 : ¬ ltC (rd_T46 l (bsI l x : Int)) x := fun h => hge ((ordP_lt _ _).2 h)
        have q2 : ¬ ((rd_T46 l (bsI l x : Int)).f1 = x.f1 ∧ (rd_T46 l (bsI l x : Int)).f0 = x.f0) := fun h => hne ((ordP_eq _ _).2 h)
        unfold ltC at *
        omega
      by_cases e : i = 0
      · subst e
        rw [rd_get l _ hR] at hx
        exact hx
      · have := hs (bsI l x) (bsI l x + i) (by omega) (by omega)
        rw [rd_get l (bsI l x + i) (by omega)] at this
        exact ltC_trans hx this
    rw [List.pairwise_append]
    refine ⟨hp.sublist (List.take_sublist _ _), List.pairwise_cons.2 ⟨hgt, hp.sublist (List.drop_sublist _ _)⟩, fun a ha b hb => ?_⟩
    rcases List.mem_cons.1 hb with rfl | hb
    · exact hlt a ha
    · exact ltC_trans (hlt a ha) (hgt b hb)
theorem pair_set {l : List S46} (h : l.Pairwise ltC) (i : Nat) (hi : i < l.length) (y : S46) (hk : keyC y = keyC l[i]) : (l.set i y).Pairwise ltC := by
  rw [List.pairwise_iff_getElem] at h ⊢
  intro a b ha hb hab
  rw [List.length_set] at ha hb
  have := h a b ha hb hab
  refine ltC_key this ?_ ?_
  · rw [List.getElem_set]
    split
    · rename_i e; subst e; exact hk
    · rfl
  · rw [List.getElem_set]
    split
    · rename_i e; subst e; exact hk
    · rfl
/-- A number folded into a row in order leaves a row in order. -/
theorem takeS_srt (key v t : Int) (l : List S46) (hs : srt l) : srt (takeS key v t l) := by
  rw [srt_iff]
  obtain ⟨p1, p2⟩ := place l ⟨key, t, z44⟩ hs
  unfold takeS
  simp only []
  cases hF : bsF l ⟨key, t, z44⟩ with
  | true =>
    simp only [if_true]
    obtain ⟨q1, q2⟩ := p1 hF
    refine pair_set ((srt_iff l).1 hs) _ q1 _ ?_
    rw [rd_get l _ q1]
    rfl
  | false =>
    simp only [Bool.false_eq_true, if_false]
    have hp := p2 hF
    have hl : bsI l ⟨key, t, z44⟩ < (l.take (bsI l ⟨key, t, z44⟩) ++ (⟨key, t, z44⟩ : S46) :: l.drop (bsI l ⟨key, t, z44⟩)).length := by
      have := bsI_le l ⟨key, t, z44⟩
      simp
      omega
    refine pair_set hp _ hl _ ?_
    rw [rd_get _ _ hl]
    rfl
theorem takeN_srt (key v : Int) (ts : List Int) (l : List S46) (hs : srt l) : srt (takeN key v ts l) := by
  unfold takeN
  induction ts generalizing l with
  | nil => exact hs
  | cons t ts ih => exact ih _ (takeS_srt key v t l hs)
theorem filter_srt (p : S46 → Bool) (l : List S46) (hs : srt l) : srt (l.filter p) := by
  rw [srt_iff] at *
  exact hs.sublist List.filter_sublist
end
section
open Go.RowKit Go.Proofs.YtgipepjpkmlmaaaW.PrintWords Go.Proofs.YtgipepjpkmlmaaaW.PrintLast Go.Proofs.YtgipepjpkmlmaaaW.PrintMore

theorem plus_small (a b : Int) (h1 : -1000000000000 ≤ a) (h2 : a ≤ 1000000000000) (h3 : -1 ≤ b) (h4 : b ≤ 1) : plusP a b = a + b := by
  have hw : wrap64 (a + b) = a + b := by unfold wrap64; omega
  unfold plusP
  rw [hw]
  split
  · omega
  · split
    · omega
    · rfl
/-- What numbers come to, if they are not too many. -/
structure aggW (a : S44) : Prop where
  c0 : 0 ≤ a.f0
  c1 : a.f0 ≤ 1000000000
  h0 : 0 ≤ a.f4.f0
  h1 : 0 ≤ a.f4.f1
  h2 : 0 ≤ a.f4.f2
  h3 : 0 ≤ a.f4.f3
  sum : a.f4.f0 + a.f4.f1 + a.f4.f2 + a.f4.f3 = a.f0
  pp : a.f5 + a.f6 ≤ a.f0
  pm : a.f5 - a.f6 ≤ a.f0
  mp : -a.f5 + a.f6 ≤ a.f0
  mm : -a.f5 - a.f6 ≤ a.f0
  lo : a.f0 = 0 ∨ a.f2 ≤ a.f3
theorem aggW_zero : aggW z44 := by constructor <;> simp [z44, z42]
theorem aggW_add {a : S44} (h : aggW a) (hc : a.f0 < 1000000000) (v : Int) : aggW (addP a v) ∧ (addP a v).f0 = a.f0 + 1 := by
  obtain ⟨c0, c1, h0, h1, h2, h3, sum, pp, pm, mp, mm, lo⟩ := h
  have hq : (v % 4).toNat = 0 ∨ (v % 4).toNat = 1 ∨ (v % 4).toNat = 2 ∨ (v % 4).toNat = 3 := by omega
  have hk : sortN v = 0 ∨ sortN v = 1 ∨ sortN v = 2 ∨ sortN v = 3 := by unfold sortN; split <;> (try split) <;> (try split) <;> simp
  have p0 : plusP a.f0 1 = a.f0 + 1 := plus_small _ _ (by omega) (by omega) (by omega) (by omega)
  have hm : mn (if a.f0 = 0 then v else a.f2) v ≤ mx (if a.f0 = 0 then v else a.f3) v := by
    unfold mn mx
    (repeat' split) <;> omega
  have hh : ∀ x : Int, 0 ≤ x → x ≤ 1000000000 → plusP x 1 = x + 1 := fun x a b => plus_small x 1 (by omega) (by omega) (by omega) (by omega)
  have hr : ∀ x : Int, -1000000000 ≤ x → x ≤ 1000000000 → plusP x 1 = x + 1 ∧ plusP x 0 = x ∧ plusP x (-1) = x - 1 := fun x a b =>
    ⟨plus_small x 1 (by omega) (by omega) (by omega) (by omega), by rw [plus_small x 0 (by omega) (by omega) (by omega) (by omega)]; omega, by rw [plus_small x (-1) (by omega) (by omega) (by omega) (by omega)]; omega⟩
  obtain ⟨r1, r2, r3⟩ := hr a.f5 (by omega) (by omega)
  obtain ⟨i1, i2, i3⟩ := hr a.f6 (by omega) (by omega)
  have e0 := hh a.f4.f0 h0 (by omega)
  have e1 := hh a.f4.f1 h1 (by omega)
  have e2 := hh a.f4.f2 h2 (by omega)
  have e3 := hh a.f4.f3 h3 (by omega)
  unfold addP
  rcases hk with k | k | k | k <;> rcases hq with q | q | q | q <;> rw [k, q] <;> simp only [setH, hist, reQ, imQ, p0, r1, r2, r3, i1, i2, i3, e0, e1, e2, e3] <;>
    refine ⟨⟨?_, ?_, ?_, ?_, ?_, ?_, ?_, ?_, ?_, ?_, ?_, .inr hm⟩, ?_⟩ <;> simp only [] <;> omega
theorem far_small (n c : Int) (h1 : -1000000000 ≤ n) (h2 : n ≤ 1000000000) (h3 : 0 ≤ c) (h4 : c ≤ 1000000000) (h5 : -c ≤ n) (h6 : n ≤ c) : farC n c = (mx n (-n), true) := by
  have hw : wrap64 (-c) = -c := by unfold wrap64; omega
  have hn : wrap64 (-n) = -n := by unfold wrap64; omega
  unfold farC
  rw [hw, hn, if_neg (by omega)]
theorem aggOk_of {a : S44} (h : aggW a) (hc : 1 ≤ a.f0) : aggOk a = true := by
  obtain ⟨c0, c1, h0, h1, h2, h3, sum, pp, pm, mp, mm, lo⟩ := h
  have w1 : wrap64 (a.f0 - a.f4.f0) = a.f0 - a.f4.f0 := by unfold wrap64; omega
  have w2 : wrap64 (a.f0 - a.f4.f0 - a.f4.f1) = a.f0 - a.f4.f0 - a.f4.f1 := by unfold wrap64; omega
  have w3 : wrap64 (a.f0 - a.f4.f0 - a.f4.f1 - a.f4.f2) = a.f0 - a.f4.f0 - a.f4.f1 - a.f4.f2 := by unfold wrap64; omega
  have w4 : wrap64 (a.f0 - a.f4.f0 - a.f4.f1 - a.f4.f2 - a.f4.f3) = 0 := by unfold wrap64; omega
  have s4 : aggSt a 4 = (true, 0) := by
    simp only [aggSt, hist, w1, w2, w3, w4]
    simp
    omega
  have m5 : mx a.f5 (-a.f5) = a.f5 ∨ mx a.f5 (-a.f5) = -a.f5 := by unfold mx; split <;> simp
  have m6 : mx a.f6 (-a.f6) = a.f6 ∨ mx a.f6 (-a.f6) = -a.f6 := by unfold mx; split <;> simp
  unfold aggOk
  rw [s4, far_small a.f5 a.f0 (by omega) (by omega) c0 c1 (by omega) (by omega), far_small a.f6 a.f0 (by omega) (by omega) c0 c1 (by omega) (by omega)]
  have hw : wrap64 (mx a.f5 (-a.f5) + mx a.f6 (-a.f6)) = mx a.f5 (-a.f5) + mx a.f6 (-a.f6) := by unfold wrap64; omega
  simp only [hw]
  simp
  rcases m5 with e | e <;> rcases m6 with f | f <;> rw [e, f] <;> omega
end
section
open Go.RowKit Go.Proofs.YtgipepjpkmlmaaaW.PrintWords Go.Proofs.YtgipepjpkmlmaaaW.PrintLast Go.Proofs.YtgipepjpkmlmaaaW.PrintMore

/-- What a window must be. -/
structure WinOk (g : S23) (m n : Int) (c : S46) : Prop where
  k0 : 0 ≤ c.f0
  k1 : c.f0 ≤ 1048576
  s0 : 0 ≤ c.f1
  s1 : c.f1 ≤ 1099511627776
  hop : Int.tmod c.f1 g.f1 = 0
  le : c.f1 ≤ m
  agg : aggW c.f2
  one : 1 ≤ c.f2.f0
  cnt : c.f2.f0 ≤ n
/-- What a state must be that comes of records from nothing on. -/
structure Inv (g : S23) (s : S28) : Prop where
  grid : chkG g = true
  n0 : 0 ≤ s.f3
  n1 : s.f3 ≤ 1000000
  late : 0 ≤ s.f1
  bad : 0 ≤ s.f2
  lb : s.f1 + s.f2 ≤ s.f3
  mark : s.f0 = -1 ∨ (0 ≤ s.f0 ∧ s.f0 ≤ 1099511627776)
  len : s.f4.length ≤ 64
  ord : srt s.f4
  each : ∀ c ∈ s.f4, WinOk g s.f0 (8 * s.f3) c
  op : ∀ c ∈ s.f4, closedP g c.f1 s.f0 = false
theorem inB_of {n : Int} (h0 : 0 ≤ n) (h1 : n ≤ 1099511627776) : inB n = true := by
  unfold inB
  rw [decide_eq_true h0, decide_eq_true h1]
  rfl
theorem chkL_true (g : S23) (s : S28) : ∀ k i, (∀ j, i ≤ j → j < i + k → okAt g s j = true) → chkL g s k i true = true
  | 0, i, h => rfl
  | k + 1, i, h => by
    rw [chkL, if_pos rfl, h i (by omega) (by omega)]
    exact chkL_true g s k (i + 1) (fun j a b => h j (by omega) (by omega))
theorem inv_check {g : S23} {s : S28} (h : Inv g s) : checkP g s = true := by
  have hp : preOk g s = true := by
    unfold preOk
    have hw : wrap64 (s.f3 - s.f2) = s.f3 - s.f2 := by have := h.n0; have := h.n1; have := h.bad; have := h.lb; have := h.late; unfold wrap64; omega
    rw [h.grid, hw]
    have h1 : inB s.f1 = true := inB_of h.late (by have := h.lb; have := h.n1; have := h.bad; omega)
    have h2 : inB s.f2 = true := inB_of h.bad (by have := h.lb; have := h.n1; have := h.late; omega)
    have h3 : inB s.f3 = true := inB_of h.n0 (by have := h.n1; omega)
    have h4 : decide (s.f1 ≤ s.f3 - s.f2) = true := decide_eq_true (by have := h.lb; omega)
    have h5 : decide (s.f4.length ≤ 64) = true := decide_eq_true h.len
    have h6 : (s.f0 == -1 || inB s.f0) = true := by
      rcases h.mark with e | ⟨a, b⟩
      · rw [e]; rfl
      · rw [inB_of a b]; simp
    rw [h4, h5, h6]
    simp [h1, h2, h3]
  unfold checkP
  rw [hp]
  refine chkL_true g s _ 0 (fun j _ hj => ?_)
  have hj2 : j < s.f4.length := by omega
  have hm : rd_T46 s.f4 (j : Int) ∈ s.f4 := by rw [rd_get _ _ hj2]; exact List.getElem_mem hj2
  have hw := h.each _ hm
  unfold okAt
  simp only []
  have a1 := inB_of hw.k0 (by have := hw.k1; omega)
  have a2 := inB_of hw.s0 hw.s1
  have a3 : decide ((rd_T46 s.f4 (j : Int)).f0 ≤ 1048576) = true := decide_eq_true hw.k1
  have a4 : decide (Int.tmod (rd_T46 s.f4 (j : Int)).f1 g.f1 = 0) = true := decide_eq_true hw.hop
  have a5 : decide ((rd_T46 s.f4 (j : Int)).f1 ≤ s.f0) = true := decide_eq_true hw.le
  have a6 := aggOk_of hw.agg hw.one
  have a7 : ((j : Int) == 0 || decide (ordP (rd_T46 s.f4 ((j : Int) - 1)) (rd_T46 s.f4 (j : Int)) < 0)) = true := by
    by_cases e : j = 0
    · subst e; rfl
    · have := h.ord (j - 1) j (by omega) hj2
      rw [show ((j - 1 : Nat) : Int) = (j : Int) - 1 by omega] at this
      rw [decide_eq_true ((ordP_lt _ _).2 this)]
      simp
  rw [a3, a4, a5, h.op _ hm, a6, a7]
  simp [a1, a2]
theorem inv_zero {g : S23} (h : chkG g = true) : Inv g awZ := by
  refine ⟨h, by decide, by decide, by decide, by decide, by decide, .inl rfl, by decide, ?_, ?_, ?_⟩
  · intro i j _ hj; simp [awZ] at hj
  · intro c hc; simp [awZ] at hc
  · intro c hc; simp [awZ] at hc
end
section
open Go.RowKit Go.Proofs.YtgipepjpkmlmaaaW.PrintWords Go.Proofs.YtgipepjpkmlmaaaW.PrintLast Go.Proofs.YtgipepjpkmlmaaaW.PrintMore

theorem startL_mem (g : S23) (t : Int) : ∀ (k : Nat) (i a : Int), a ∈ startL g t k i → ∃ j : Int, i ≤ j ∧ j < i + k ∧ a = stAt g t j ∧ 0 ≤ a
  | 0, i, a, h => by simp [startL] at h
  | k + 1, i, a, h => by
    unfold startL at h
    split at h
    · rcases List.mem_cons.1 h with rfl | h
      · exact ⟨i, by omega, by omega, rfl, by omega⟩
      · obtain ⟨j, a1, a2, a3⟩ := startL_mem g t k (i + 1) a h
        exact ⟨j, by omega, by omega, a3⟩
    · obtain ⟨j, a1, a2, a3⟩ := startL_mem g t k (i + 1) a h
      exact ⟨j, by omega, by omega, a3⟩
/-- A moment's beginnings are beginnings, and not behind it. -/
theorem startsP_mem (g : S23) (t : Int) (hg : chkG g = true) (h0 : 0 ≤ t) (h1 : t ≤ 1099511627776) (a : Int) (ha : a ∈ startsP g t) : 0 ≤ a ∧ a ≤ t ∧ Int.tmod a g.f1 = 0 := by
  obtain ⟨g0, g1, g2, g3, g4, g5, g6, g7⟩ := chkG_spec hg
  obtain ⟨j, j0, j1, e, ea⟩ := startL_mem g t _ 0 a ha
  have e1 : Int.tdiv g.f0 g.f1 = g.f0 / g.f1 := Int.tdiv_eq_ediv_of_nonneg (by omega)
  have e2 : Int.tmod g.f0 g.f1 = g.f0 % g.f1 := Int.tmod_eq_emod_of_nonneg (by omega)
  have e3 : Int.tmod t g.f1 = t % g.f1 := Int.tmod_eq_emod_of_nonneg h0
  rw [e2] at g4
  have q0 : 0 ≤ g.f0 / g.f1 := Int.ediv_nonneg (by omega) (by omega)
  have qle : g.f0 / g.f1 ≤ g.f0 := Int.ediv_le_self _ (by omega)
  have hn : wrap64 (Int.tdiv g.f0 g.f1) = g.f0 / g.f1 := by rw [e1]; unfold wrap64; omega
  rw [hn] at j1
  have hd : g.f1 * (g.f0 / g.f1) + g.f0 % g.f1 = g.f0 := Int.mul_ediv_add_emod _ _
  have ht : g.f1 * (t / g.f1) + t % g.f1 = t := Int.mul_ediv_add_emod _ _
  have tm0 : 0 ≤ t % g.f1 := Int.emod_nonneg _ (by omega)
  have tm1 : t % g.f1 < g.f1 := Int.emod_lt_of_pos _ (by omega)
  have hj : j + 1 ≤ g.f0 / g.f1 := by omega
  have hmul : g.f1 * (j + 1) ≤ g.f1 * (g.f0 / g.f1) := Int.mul_le_mul_of_nonneg_left hj (by omega)
  have hmul0 : 0 ≤ g.f1 * (j + 1) := Int.mul_nonneg (by omega) (by omega)
  have hst : a = t - t % g.f1 - g.f0 + g.f1 * (j + 1) := by
    rw [e]
    unfold stAt
    rw [e3]
    have w0 : wrap64 (j + 1) = j + 1 := by unfold wrap64; omega
    rw [w0]
    have w1 : wrap64 (g.f1 * (j + 1)) = g.f1 * (j + 1) := by unfold wrap64; omega
    rw [w1]
    have w2 : wrap64 (t - t % g.f1) = t - t % g.f1 := by unfold wrap64; omega
    rw [w2]
    have w3 : wrap64 (t - t % g.f1 - g.f0) = t - t % g.f1 - g.f0 := by unfold wrap64; omega
    rw [w3]
    unfold wrap64
    omega
  refine ⟨ea, by omega, ?_⟩
  have hx : a = g.f1 * (t / g.f1 - g.f0 / g.f1 + (j + 1)) := by
    rw [Int.mul_add, Int.mul_sub]
    omega
  rw [hx]
  exact Int.mul_tmod_right _ _
/-- One start's part leaves windows as they must be. -/
theorem takeS_each (g : S23) (m n key v t : Int) (l : List S46) (hs : srt l) (hl : ∀ c ∈ l, WinOk g m n c) (k0 : 0 ≤ key) (k1 : key ≤ 1048576) (t0 : 0 ≤ t) (t1 : t ≤ 1099511627776) (th : Int.tmod t g.f1 = 0) (tm : t ≤ m) (hn0 : 0 ≤ n) (hn1 : n < 100000000) :
    ∀ c ∈ takeS key v t l, WinOk g m (n + 1) c := by
  have up : ∀ c ∈ l, WinOk g m (n + 1) c := fun c hc => by
    obtain ⟨a1, a2, a3, a4, a5, a6, a7, a8, a9⟩ := hl c hc
    exact ⟨a1, a2, a3, a4, a5, a6, a7, a8, by omega⟩
  obtain ⟨p1, p2⟩ := place l ⟨key, t, z44⟩ hs
  have hI := bsI_le l ⟨key, t, z44⟩
  intro c hc
  unfold takeS at hc
  simp only [] at hc
  cases hF : bsF l ⟨key, t, z44⟩ with
  | true =>
    rw [hF] at hc
    simp only [if_true] at hc
    obtain ⟨q1, q2⟩ := p1 hF
    rcases List.mem_or_eq_of_mem_set hc with h | h
    · exact up c h
    · have hy : rd_T46 l (bsI l ⟨key, t, z44⟩ : Int) ∈ l := by rw [rd_get _ _ q1]; exact List.getElem_mem q1
      obtain ⟨a1, a2, a3, a4, a5, a6, a7, a8, a9⟩ := hl _ hy
      have hadd := aggW_add a7 (by omega) v
      subst h
      exact ⟨a1, a2, a3, a4, a5, a6, hadd.1, by simp only []; rw [hadd.2]; omega, by simp only []; rw [hadd.2]; omega⟩
  | false =>
    rw [hF] at hc
    simp only [Bool.false_eq_true, if_false] at hc
    have hlen : (l.take (bsI l ⟨key, t, z44⟩)).length = bsI l ⟨key, t, z44⟩ := by rw [List.length_take]; omega
    have hrd : rd_T46 (l.take (bsI l ⟨key, t, z44⟩) ++ (⟨key, t, z44⟩ : S46) :: l.drop (bsI l ⟨key, t, z44⟩)) (bsI l ⟨key, t, z44⟩ : Int) = ⟨key, t, z44⟩ := by
      rw [rd_get _ _ (by simp; omega), List.getElem_append_right (by omega)]
      simp [hlen]
    rw [hrd, List.set_append_right _ _ (by omega), hlen, Nat.sub_self, List.set_cons_zero] at hc
    rcases List.mem_append.1 hc with h | h
    · exact up c (List.mem_of_mem_take h)
    · rcases List.mem_cons.1 h with h | h
      · have hadd := aggW_add aggW_zero (by decide) v
        have hz : z44.f0 = 0 := rfl
        subst h
        exact ⟨k0, k1, t0, t1, th, tm, hadd.1, by simp only []; rw [hadd.2, hz]; omega, by simp only []; rw [hadd.2, hz]; omega⟩
      · exact up c (List.mem_of_mem_drop h)
theorem takeN_each (g : S23) (m key v : Int) (k0 : 0 ≤ key) (k1 : key ≤ 1048576) : ∀ (ts : List Int) (n : Int) (l : List S46), srt l → (∀ c ∈ l, WinOk g m n c) → (∀ t ∈ ts, 0 ≤ t ∧ t ≤ 1099511627776 ∧ Int.tmod t g.f1 = 0 ∧ t ≤ m) → 0 ≤ n → n + ts.length < 100000000 →
    ∀ c ∈ takeN key v ts l, WinOk g m (n + ts.length) c
  | [], n, l, hs, hl, ht, hn0, hn1, c, hc => by
    have := hl c hc
    simpa using this
  | t :: ts, n, l, hs, hl, ht, hn0, hn1, c, hc => by
    obtain ⟨t0, t1, th, tm⟩ := ht t (by simp)
    have h1 := takeS_each g m n key v t l hs hl k0 k1 t0 t1 th tm hn0 (by simp at hn1; omega)
    have h2 := takeN_each g m key v k0 k1 ts (n + 1) (takeS key v t l) (takeS_srt key v t l hs) h1 (fun a ha => ht a (by simp [ha])) (by omega) (by simp at hn1; omega) c hc
    rw [List.length_cons, show n + ((ts.length + 1 : Nat) : Int) = n + 1 + (ts.length : Int) by omega]
    exact h2
/-- A record that is taken leaves a state that may be. -/
theorem inv_feed {g : S23} {s : S28} {r : S50} (h : Inv g s) (hn : s.f3 < 1000000) (he : (feedP g s r).2.2 = 0) : Inv g (feedP g s r).1 := by
  have hw : ∀ x : Int, 0 ≤ x → x ≤ 1000000 → wrap64 (x + 1) = x + 1 := fun x a b => by unfold wrap64; omega
  obtain ⟨hg, n0, n1, late, bad, lb, mark, len, ord, each, op⟩ := h
  unfold feedP at he ⊢
  split at he
  · rename_i c1
    rw [if_pos c1]
    simp only [Bool.and_eq_true, Bool.not_eq_true', decide_eq_false_iff_not] at c1
    obtain ⟨_, c2, c3⟩ := c1
    have hk : 0 ≤ r.f0 ∧ 0 ≤ r.f1 ∧ r.f1 ≤ 1099511627776 := by
      simp [inB] at c2
      omega
    split at he
    · cases he
    · rename_i c4
      rw [if_neg c4]
      by_cases c5 : (valP r.f2).2 = true
      · rw [if_pos c5]
        simp only []
        have hm : s.f0 ≤ mx s.f0 r.f1 ∧ r.f1 ≤ mx s.f0 r.f1 ∧ 0 ≤ mx s.f0 r.f1 ∧ mx s.f0 r.f1 ≤ 1099511627776 := by
          unfold mx
          split <;> omega
        have hst : ∀ t ∈ keepI g s.f0 (startsP g r.f1), 0 ≤ t ∧ t ≤ 1099511627776 ∧ Int.tmod t g.f1 = 0 ∧ t ≤ mx s.f0 r.f1 := by
          intro t ht
          obtain ⟨a, b, c⟩ := startsP_mem g r.f1 hg hk.2.1 hk.2.2 t (List.mem_filter.1 ht).1
          exact ⟨a, by omega, c, by omega⟩
        have hsl : (keepI g s.f0 (startsP g r.f1)).length ≤ 8 := Nat.le_trans (List.length_filter_le _ _) (startsP_length g r.f1 hg)
        have hold : ∀ c ∈ s.f4, WinOk g (mx s.f0 r.f1) (8 * s.f3) c := fun c hc => by
          obtain ⟨a1, a2, a3, a4, a5, a6, a7, a8, a9⟩ := each c hc
          exact ⟨a1, a2, a3, a4, a5, by omega, a7, a8, a9⟩
        have hnew := takeN_each g (mx s.f0 r.f1) r.f0 (valP r.f2).1 hk.1 (by omega) _ (8 * s.f3) s.f4 ord hold hst (by omega) (by omega)
        have h2 : ∀ (b : Bool) (l : List S46), (b = true → l = s.f4) → (b = false → l = takeN r.f0 (valP r.f2).1 (keepI g s.f0 (startsP g r.f1)) s.f4 ∧ l.length ≤ 64) →
            srt l ∧ l.length ≤ 64 ∧ ∀ c ∈ l, WinOk g (mx s.f0 r.f1) (8 * (s.f3 + 1)) c := by
          intro b l hb1 hb2
          cases b with
          | true =>
            rw [hb1 rfl]
            refine ⟨ord, len, fun c hc => ?_⟩
            obtain ⟨a1, a2, a3, a4, a5, a6, a7, a8, a9⟩ := hold c hc
            exact ⟨a1, a2, a3, a4, a5, a6, a7, a8, by omega⟩
          | false =>
            obtain ⟨e, hl⟩ := hb2 rfl
            refine ⟨by rw [e]; exact takeN_srt _ _ _ _ ord, hl, fun c hc => ?_⟩
            rw [e] at hc
            obtain ⟨a1, a2, a3, a4, a5, a6, a7, a8, a9⟩ := hnew c hc
            exact ⟨a1, a2, a3, a4, a5, a6, a7, a8, by omega⟩
        generalize hD : (decide ((keepI g s.f0 (startsP g r.f1)).length = 0) || !decide ((takeN r.f0 (valP r.f2).1 (keepI g s.f0 (startsP g r.f1)) s.f4).length ≤ 64)) = D
        obtain ⟨q1, q2, q3⟩ := h2 D (if D = true then s.f4 else takeN r.f0 (valP r.f2).1 (keepI g s.f0 (startsP g r.f1)) s.f4) (fun e => by rw [if_pos e]) (fun e => by
          rw [if_neg (by rw [e]; decide)]
          refine ⟨rfl, ?_⟩
          rw [e] at hD
          simp at hD
          exact hD.2)
        generalize (if D = true then s.f4 else takeN r.f0 (valP r.f2).1 (keepI g s.f0 (startsP g r.f1)) s.f4) = l2 at q1 q2 q3
        have hla : s.f1 ≤ (if D = true then wrap64 (s.f1 + 1) else s.f1) ∧ (if D = true then wrap64 (s.f1 + 1) else s.f1) ≤ s.f1 + 1 := by
          rw [hw _ late (by omega)]
          split <;> omega
        generalize (if D = true then wrap64 (s.f1 + 1) else s.f1) = la at hla
        rw [hw _ n0 (by omega)]
        refine ⟨hg, by simp only []; omega, by simp only []; omega, by simp only []; omega, bad, by simp only []; omega, .inr ⟨hm.2.2.1, hm.2.2.2⟩, Nat.le_trans (List.length_filter_le _ _) q2, filter_srt _ _ q1, fun c hc => q3 c (List.mem_filter.1 hc).1, fun c hc => ?_⟩
        have := (List.mem_filter.1 hc).2
        simpa using this
      · rw [if_neg c5]
        simp only []
        rw [hw _ bad (by omega), hw _ n0 (by omega)]
        refine ⟨hg, by simp only []; omega, by simp only []; omega, late, by simp only []; omega, by simp only []; omega, mark, len, ord, fun c hc => ?_, op⟩
        obtain ⟨a1, a2, a3, a4, a5, a6, a7, a8, a9⟩ := each c hc
        exact ⟨a1, a2, a3, a4, a5, a6, a7, a8, by simp only []; omega⟩
  · cases he
theorem feed_n {g : S23} {s : S28} {r : S50} (h : Inv g s) (h0 : (feedP g s r).2.2 = 0) : (feedP g s r).1.f3 ≤ s.f3 + 1 := by
  unfold feedP at h0 ⊢
  have hw : wrap64 (s.f3 + 1) = s.f3 + 1 := by have := h.n0; have := h.n1; unfold wrap64; omega
  split
  · split
    · simp [z28]; have := h.n0; omega
    · split
      · simp only []; omega
      · simp only []; omega
  · simp [z28]; have := h.n0; omega
/-- What records leave may be. -/
theorem inv_run (g : S23) : ∀ (l : List S50) (s : S28) (all : List S46), Inv g s → s.f3 + l.length ≤ 1000000 → (runL g l s all).2.2 = 0 → Inv g (runL g l s all).1
  | [], s, all, h, _, _ => h
  | r :: rs, s, all, h, hn, he => by
    rw [runL] at he ⊢
    by_cases h0 : (feedP g s r).2.2 = 0
    · rw [if_pos h0] at he ⊢
      have h1 := inv_feed h (by simp at hn; omega) h0
      have hf := feed_n h h0
      exact inv_run g rs _ _ h1 (by simp at hn; omega) he
    · rw [if_neg h0] at he
      exact absurd he h0
end
section
open Go.RowKit Go.Proofs.YtgipepjpkmlmaaaW.PrintWords Go.Proofs.YtgipepjpkmlmaaaW.PrintLast Go.Proofs.YtgipepjpkmlmaaaW.PrintMore

theorem takeS_key (key v t : Int) (l : List S46) (hs : srt l) : ∀ c ∈ takeS key v t l, (∃ d ∈ l, keyC c = keyC d) ∨ keyC c = (key, t) := by
  obtain ⟨p1, p2⟩ := place l ⟨key, t, z44⟩ hs
  have hI := bsI_le l ⟨key, t, z44⟩
  intro c hc
  unfold takeS at hc
  simp only [] at hc
  cases hF : bsF l ⟨key, t, z44⟩ with
  | true =>
    rw [hF] at hc
    simp only [if_true] at hc
    obtain ⟨q1, q2⟩ := p1 hF
    rcases List.mem_or_eq_of_mem_set hc with h | h
    · exact .inl ⟨c, h, rfl⟩
    · subst h
      exact .inr q2
  | false =>
    rw [hF] at hc
    simp only [Bool.false_eq_true, if_false] at hc
    have hlen : (l.take (bsI l ⟨key, t, z44⟩)).length = bsI l ⟨key, t, z44⟩ := by rw [List.length_take]; omega
    have hrd : rd_T46 (l.take (bsI l ⟨key, t, z44⟩) ++ (⟨key, t, z44⟩ : S46) :: l.drop (bsI l ⟨key, t, z44⟩)) (bsI l ⟨key, t, z44⟩ : Int) = ⟨key, t, z44⟩ := by
      rw [rd_get _ _ (by simp; omega), List.getElem_append_right (by omega)]
      simp [hlen]
    rw [hrd, List.set_append_right _ _ (by omega), hlen, Nat.sub_self, List.set_cons_zero] at hc
    rcases List.mem_append.1 hc with h | h
    · exact .inl ⟨c, List.mem_of_mem_take h, rfl⟩
    · rcases List.mem_cons.1 h with h | h
      · subst h
        exact .inr rfl
      · exact .inl ⟨c, List.mem_of_mem_drop h, rfl⟩
theorem takeN_key (key v : Int) : ∀ (ts : List Int) (l : List S46), srt l → ∀ c ∈ takeN key v ts l, (∃ d ∈ l, keyC c = keyC d) ∨ ∃ t ∈ ts, keyC c = (key, t)
  | [], l, hs, c, hc => .inl ⟨c, hc, rfl⟩
  | t :: ts, l, hs, c, hc => by
    rcases takeN_key key v ts (takeS key v t l) (takeS_srt key v t l hs) c hc with ⟨d, hd, e⟩ | ⟨a, ha, e⟩
    · rcases takeS_key key v t l hs d hd with ⟨d2, h2, e2⟩ | e2
      · exact .inl ⟨d2, h2, e.trans e2⟩
      · exact .inr ⟨t, by simp, e.trans e2⟩
    · exact .inr ⟨a, by simp [ha], e⟩
theorem closed_mono {g : S23} {a m m2 : Int} (hg : chkG g = true) (h : closedP g a m = true) (h1 : m ≤ m2) (h2 : m2 ≤ 1099511627776) : closedP g a m2 = true := by
  obtain ⟨g0, g1, g2, g3, g4, g5, g6, g7⟩ := chkG_spec hg
  unfold closedP at *
  simp only [Bool.and_eq_true, decide_eq_true_eq] at h ⊢
  obtain ⟨_, a1, a2⟩ := h
  have w1 : wrap64 (wrap64 (m - g.f0) - g.f2) = m - g.f0 - g.f2 := by unfold wrap64; omega
  have w2 : wrap64 (wrap64 (m2 - g.f0) - g.f2) = m2 - g.f0 - g.f2 := by unfold wrap64; omega
  rw [w1] at a2
  rw [w2]
  exact ⟨hg, by omega, by omega⟩
/-- Two windows of another key or beginning. -/
def neK (a b : S46) : Prop := keyC a ≠ keyC b
theorem srt_neK {l : List S46} (h : srt l) : l.Pairwise neK := by
  rw [srt_iff] at h
  refine h.imp (fun {a b} hab e => ?_)
  unfold keyC at e
  injection e with e1 e2
  unfold ltC at hab
  omega
/-- What has been told is closed, and what is told or open is of its own. -/
structure OnceI (g : S23) (s : S28) (all : List S46) : Prop where
  inv : Inv g s
  cl : ∀ c ∈ all, closedP g c.f1 s.f0 = true
  ne : (all ++ s.f4).Pairwise neK
theorem once_feed {g : S23} {s : S28} {r : S50} {all : List S46} (h : OnceI g s all) (hn : s.f3 < 1000000) (he : (feedP g s r).2.2 = 0) : OnceI g (feedP g s r).1 (all ++ (feedP g s r).2.1) := by
  have hinv := inv_feed h.inv hn he
  obtain ⟨inv, cl, ne⟩ := h
  refine ⟨hinv, ?_, ?_⟩ <;> clear hinv
  all_goals
    have hmk := inv.mark
    have hg := inv.grid
    have hord := inv.ord
    unfold feedP at he ⊢
    split at he
    rotate_left
    · cases he
    rename_i c1
    rw [if_pos c1]
    have hk : 0 ≤ r.f1 ∧ r.f1 ≤ 1099511627776 := by
      simp only [Bool.and_eq_true] at c1
      have := c1.2.1
      simp [inB] at this
      omega
    split at he
    · cases he
    rename_i c4
    rw [if_neg c4]
    have hm : s.f0 ≤ mx s.f0 r.f1 ∧ mx s.f0 r.f1 ≤ 1099511627776 := by
      unfold mx
      split <;> omega
  · by_cases c5 : (valP r.f2).2 = true
    · rw [if_pos c5]
      simp only []
      intro c hc
      rcases List.mem_append.1 hc with h | h
      · exact closed_mono hg (cl c h) hm.1 hm.2
      · exact (List.mem_filter.1 h).2
    · rw [if_neg c5]
      simp only [List.append_nil]
      exact cl
  · by_cases c5 : (valP r.f2).2 = true
    rotate_left
    · rw [if_neg c5]
      simp only [List.append_nil]
      exact ne
    rw [if_pos c5]
    simp only []
    generalize (decide ((keepI g s.f0 (startsP g r.f1)).length = 0) || !decide ((takeN r.f0 (valP r.f2).1 (keepI g s.f0 (startsP g r.f1)) s.f4).length ≤ 64)) = D
    obtain ⟨l2, hl2⟩ : ∃ l2, (if D = true then s.f4 else takeN r.f0 (valP r.f2).1 (keepI g s.f0 (startsP g r.f1)) s.f4) = l2 := ⟨_, rfl⟩
    rw [hl2]
    have hs2 : srt l2 := by
      rw [← hl2]
      split
      · exact hord
      · exact takeN_srt _ _ _ _ hord
    have hk2 : ∀ c ∈ l2, (∃ d ∈ s.f4, keyC c = keyC d) ∨ closedP g c.f1 s.f0 = false := by
      intro c hc
      rw [← hl2] at hc
      split at hc
      · exact .inl ⟨c, hc, rfl⟩
      · rcases takeN_key _ _ _ _ hord c hc with h | ⟨t, ht, e⟩
        · exact .inl h
        · refine .inr ?_
          have h3 := (List.mem_filter.1 ht).2
          unfold keyC at e
          injection e with e1 e2
          rw [e2]
          simpa using h3
    have hne := List.pairwise_append.1 ne
    have hall : ∀ a ∈ all, ∀ c ∈ l2, neK a c := by
      intro a ha c hc e
      rcases hk2 c hc with ⟨d, hd, e2⟩ | h3
      · exact hne.2.2 a ha d hd (e.trans e2)
      · have h4 := cl a ha
        unfold keyC at e
        injection e with e1 e2
        rw [e2, h3] at h4
        cases h4
    have hp2 := srt_neK hs2
    rw [List.append_assoc, List.pairwise_append]
    refine ⟨hne.1, ?_, fun a ha c hc => ?_⟩
    · rw [List.pairwise_append]
      refine ⟨hp2.sublist List.filter_sublist, hp2.sublist List.filter_sublist, fun a ha c hc e => ?_⟩
      have h1 := (List.mem_filter.1 ha).2
      have h2 := (List.mem_filter.1 hc).2
      unfold keyC at e
      injection e with e1 e2
      rw [e2] at h1
      rw [h1] at h2
      cases h2
    · rcases List.mem_append.1 hc with h | h
      · exact hall a ha c (List.mem_filter.1 h).1
      · exact hall a ha c (List.mem_filter.1 h).1
theorem once_run (g : S23) : ∀ (l : List S50) (s : S28) (all : List S46), OnceI g s all → s.f3 + l.length ≤ 1000000 → (runL g l s all).2.2 = 0 → OnceI g (runL g l s all).1 (runL g l s all).2.1
  | [], s, all, h, _, _ => h
  | r :: rs, s, all, h, hn, he => by
    rw [runL] at he ⊢
    by_cases h0 : (feedP g s r).2.2 = 0
    · rw [if_pos h0] at he ⊢
      have h1 := once_feed h (by simp at hn; omega) h0
      have hf := feed_n h.inv h0
      exact once_run g rs _ _ h1 (by simp at hn; omega) he
    · rw [if_neg h0] at he
      exact absurd he h0
/-- A window is told once at the most, when it is closed; those that are open are not. -/
theorem once_law (g : S23) (l : List S50) (hl : l.length ≤ 1000) (he : (runP g awZ l).2.2 = 0) : OnceI g (runP g awZ l).1 (runP g awZ l).2.1 := by
  unfold runP at he ⊢
  split at he
  · rename_i c
    rw [if_pos c]
    refine once_run g l awZ [] ⟨inv_zero (checkP_grid c), fun c h => by simp at h, by simp [awZ]⟩ (by simp [awZ]; omega) he
  · cases he
end
section
open Go.RowKit Go.Proofs.YtgipepjpkmlmaaaW.PrintWords Go.Proofs.YtgipepjpkmlmaaaW.PrintLast Go.Proofs.YtgipepjpkmlmaaaW.PrintMore

theorem may_l0 (g : S23) (q : Int) (hq : q * g.f1 = g.f0) (h0 : 1 ≤ g.f0) (h1 : g.f0 ≤ 1048576) (f0 : 1 ≤ g.f1) (f1 : g.f1 ≤ 1048576) (hq8 : q ≤ 8) : ∀ (n : Nat) (k : Nat) (i : Int), 1 ≤ i → i ≤ q → (q - i).toNat = n → n < k → headgateref14_May.l0 k i g.f0 g.f1 g.f2 = some true := by
  intro n
  induction n with
  | zero =>
    intro k i hi hiq hn hk
    obtain ⟨k, rfl⟩ : ∃ j, k = j + 1 := ⟨k - 1, by omega⟩
    obtain rfl : i = q := by omega
    rw [headgateref14_May.l0, if_pos hq8, if_pos]
    rw [hq]
    unfold wrap64
    omega
  | succ n ih =>
    intro k i hi hiq hn hk
    obtain ⟨k, rfl⟩ : ∃ j, k = j + 1 := ⟨k - 1, by omega⟩
    rw [headgateref14_May.l0, if_pos (by omega)]
    split
    · rfl
    · rw [show wrap64 (i + 1) = i + 1 by unfold wrap64; omega]
      exact ih k (i + 1) (by omega) (by omega) (by omega) (by omega)
/-- Windows that may be may be by the reference, too. -/
theorem may_ref (g : S23) (hg : chkG g = true) : headgateref14_May.f 10 g.f0 g.f1 g.f2 = some true := by
  obtain ⟨g0, g1, g2, g3, g4, g5, g6, g7⟩ := chkG_spec hg
  have e1 : Int.tdiv g.f0 g.f1 = g.f0 / g.f1 := Int.tdiv_eq_ediv_of_nonneg (by omega)
  have e2 : Int.tmod g.f0 g.f1 = g.f0 % g.f1 := Int.tmod_eq_emod_of_nonneg (by omega)
  rw [e2] at g4
  have q0 : 1 ≤ g.f0 / g.f1 := (Int.le_ediv_iff_mul_le (by omega)).2 (by omega)
  have qle : g.f0 / g.f1 ≤ g.f0 := Int.ediv_le_self _ (by omega)
  have hn : wrap64 (Int.tdiv g.f0 g.f1) = g.f0 / g.f1 := by rw [e1]; unfold wrap64; omega
  rw [hn] at g5
  have hd : g.f1 * (g.f0 / g.f1) + g.f0 % g.f1 = g.f0 := Int.mul_ediv_add_emod _ _
  have hq : g.f0 / g.f1 * g.f1 = g.f0 := by rw [Int.mul_comm]; omega
  unfold headgateref14_May.f
  rw [if_neg (by omega), if_neg (by omega), if_neg (by omega), if_neg (by omega), if_neg (by omega), headgateref14_May.j0, decide_eq_false (by omega), if_neg (by decide)]
  exact may_l0 g (g.f0 / g.f1) hq g0 g1 g2 (by omega) g5 _ 9 1 (by omega) q0 rfl (by omega)
/-- Both say alike whether a window is closed. -/
theorem closed_ref (g : S23) (hg : chkG g = true) (a m : Int) (h0 : -1 ≤ m) (h1 : m ≤ 1099511627776) : headgateref14_Closed.f 10 g.f0 g.f1 g.f2 a m = some (closedP g a m) := by
  obtain ⟨g0, g1, g2, g3, g4, g5, g6, g7⟩ := chkG_spec hg
  unfold headgateref14_Closed.f
  rw [may_ref g hg, Option.bind_some, if_pos rfl]
  unfold closedP
  rw [hg]
  have w1 : wrap64 (wrap64 (m - g.f0) - g.f2) = m - g.f0 - g.f2 := by unfold wrap64; omega
  have w2 : wrap64 (m - wrap64 (g.f0 + g.f2)) = m - g.f0 - g.f2 := by unfold wrap64; omega
  rw [w1, w2]
  by_cases c : m ≥ 0
  · rw [if_pos c, decide_eq_true (show (0 : Int) ≤ m from c)]
    simp
  · rw [if_neg c, decide_eq_false (show ¬ (0 : Int) ≤ m from c)]
    simp
theorem closedRef_calls (g : S23) (hg : chkG g = true) (a m : Int) (h0 : -1 ≤ m) (h1 : m ≤ 1099511627776) (w : World) : Calls Try.prog 22 #[gridV g, .int .i64 a, .int .i64 m] w fun e w' => e = .returned (.bool (closedP g a m)) ∧ Below w.heap.size w w' :=
  headgateref14_Closed.calls 10 g.f0 g.f1 g.f2 a m (closedP g a m) w (closed_ref g hg a m h0 h1)
end
end Go.Proofs.Ytgipepjpkmlmaaa.P
