import Derived.Test.YtgipepjpkmlmaaaE20
namespace Go.Proofs.Ytgipepjpkmlmaaa.P
set_option linter.unusedVariables false
set_option linter.unusedSimpArgs false
section
open Go.RowKit Go.Proofs.YtgipepjpkmlmaaaW.PrintWords Go.Proofs.YtgipepjpkmlmaaaW.PrintLast Go.Proofs.YtgipepjpkmlmaaaW.PrintMore

/-! ### EngineWhole's plain law: the beginnings of a moment -/
theorem startL_mem2 (g : S23) (t : Int) : ∀ (k : Nat) (i : Nat) (j : Nat), i ≤ j → j < i + k → 0 ≤ stAt g t (j : Int) → stAt g t (j : Int) ∈ startL g t k (i : Int)
  | 0, i, j, h1, h2, _ => by omega
  | k + 1, i, j, h1, h2, h3 => by
    rw [startL]
    by_cases e : j = i
    · subst e
      rw [if_pos (by omega)]
      exact List.mem_cons_self
    · have := startL_mem2 g t k (i + 1) j (by omega) (by omega) h3
      split
      · exact List.mem_cons_of_mem _ this
      · exact this
/-- A beginning of a moment's windows is what stands on the grid, and whose window holds the moment. -/
theorem mem_starts {g : S23} {t : Int} (hg : chkG g = true) (h0 : 0 ≤ t) (h1 : t ≤ 1099511627776) (a : Int) : a ∈ startsP g t ↔ 0 ≤ a ∧ Int.tmod a g.f1 = 0 ∧ a ≤ t ∧ t < a + g.f0 := by
  obtain ⟨g0, g1, g2, g3, g4, g5, g6, g7⟩ := chkG_spec hg
  obtain ⟨m0, m1, m2, m3⟩ := t_mod hg h0
  obtain ⟨q, q1, q8, qf, qw⟩ := grid_q hg
  have hsp : startsP g t = startL g t q 0 := by unfold startsP; rw [qw, Int.toNat_natCast]
  constructor
  · intro ha
    obtain ⟨b1, b2, b3⟩ := startsP_mem g t hg h0 h1 a ha
    refine ⟨b1, b3, b2, ?_⟩
    rw [hsp] at ha
    obtain ⟨j, j0, j1, e, _⟩ := startL_mem g t q 0 a ha
    obtain ⟨n, rfl⟩ := Int.eq_ofNat_of_zero_le j0
    rw [stAt_eq hg h0 h1 n (by omega)] at e
    have hm := Int.mul_nonneg (show 0 ≤ g.f1 by omega) (show (0 : Int) ≤ (n : Int) by omega)
    unfold stN at e
    rw [Int.mul_add, Int.mul_one] at e
    omega
  · rintro ⟨a0, a1, a2, a3⟩
    rw [Int.tmod_eq_emod_of_nonneg a0] at a1
    have ea : g.f1 * (a / g.f1) + a % g.f1 = a := Int.mul_ediv_add_emod _ _
    have et : g.f1 * (t / g.f1) + t % g.f1 = t := Int.mul_ediv_add_emod _ _
    obtain ⟨m, hm⟩ : ∃ m, a / g.f1 = m := ⟨_, rfl⟩
    obtain ⟨T, hT⟩ : ∃ m, t / g.f1 = m := ⟨_, rfl⟩
    rw [hm] at ea
    rw [hT] at et
    have hmT : m ≤ T := by
      have h : g.f1 * m < g.f1 * (T + 1) := by rw [Int.mul_add, Int.mul_one]; omega
      have := Int.lt_of_mul_lt_mul_left h (by omega)
      omega
    have hTm : T < m + q := by
      have h : g.f1 * T < g.f1 * (m + q) := by rw [Int.mul_add]; omega
      exact Int.lt_of_mul_lt_mul_left h (by omega)
    obtain ⟨j, hj⟩ : ∃ j : Nat, (j : Int) = m - T + q - 1 := ⟨(m - T + q - 1).toNat, by omega⟩
    have hst : stAt g t (j : Int) = a := by
      rw [stAt_eq hg h0 h1 j (by omega)]
      unfold stN
      rw [show (j : Int) + 1 = m - T + q by omega, Int.mul_add, Int.mul_sub]
      omega
    rw [hsp, ← hst]
    exact startL_mem2 g t q 0 j (by omega) (by omega) (by omega)
/-! ### What a number does to a row of windows -/
theorem takeS_spec (key v t : Int) (l : List S46) (hs : srt l) : ∀ c ∈ takeS key v t l, (keyC c = (key, t) ∧ ((∃ d ∈ l, keyC d = (key, t) ∧ c.f2 = addP d.f2 v) ∨ ((∀ d ∈ l, keyC d ≠ (key, t)) ∧ c.f2 = addP z44 v))) ∨ (keyC c ≠ (key, t) ∧ c ∈ l) := by
  intro c hc
  obtain ⟨p1, p2⟩ := place l ⟨key, t, z44⟩ hs
  have hle : bsI l ⟨key, t, z44⟩ ≤ l.length := bsL_le l _ (l.length + 1) 0 l.length (Nat.zero_le _)
  have hneq := srt_neK hs
  unfold takeS at hc
  simp only at hc
  cases hb : bsF l ⟨key, t, z44⟩ with
  | true =>
    rw [hb, if_pos rfl] at hc
    obtain ⟨hi, hk⟩ := p1 hb
    rw [rd_get l _ hi] at hc hk
    rw [List.mem_iff_getElem] at hc
    obtain ⟨j, hj, rfl⟩ := hc
    rw [List.length_set] at hj
    rw [List.getElem_set]
    by_cases e : bsI l ⟨key, t, z44⟩ = j
    · rw [if_pos e]
      exact .inl ⟨hk, .inl ⟨_, List.getElem_mem hi, hk, rfl⟩⟩
    · rw [if_neg e]
      refine .inr ⟨fun hk2 => ?_, List.getElem_mem hj⟩
      rw [List.pairwise_iff_getElem] at hneq
      rcases Nat.lt_or_gt_of_ne e with h | h
      · exact hneq _ _ hi hj h (hk.trans hk2.symm)
      · exact hneq _ _ hj hi h (hk2.trans hk.symm)
  | false =>
    rw [hb, if_neg (by decide)] at hc
    have hlen : (l.take (bsI l ⟨key, t, z44⟩)).length = bsI l ⟨key, t, z44⟩ := by rw [List.length_take]; omega
    have hrd : rd_T46 (l.take (bsI l ⟨key, t, z44⟩) ++ (⟨key, t, z44⟩ : S46) :: l.drop (bsI l ⟨key, t, z44⟩)) (bsI l ⟨key, t, z44⟩ : Int) = ⟨key, t, z44⟩ := by
      rw [rd_get _ _ (by simp; omega)]
      rw [List.getElem_append_right (by omega)]
      simp [hlen]
    rw [hrd, List.set_append_right _ _ (by omega), hlen, Nat.sub_self, List.set_cons_zero] at hc
    have hp := p2 hb
    rw [List.pairwise_append] at hp
    obtain ⟨hp1, hp2, hp3⟩ := hp
    rw [List.pairwise_cons] at hp2
    have hno : ∀ d ∈ l, keyC d ≠ (key, t) := by
      intro d hd
      rw [← List.take_append_drop (bsI l ⟨key, t, z44⟩) l] at hd
      intro e
      unfold keyC at e
      injection e with e1 e2
      rcases List.mem_append.1 hd with h | h
      · have := hp3 d h ⟨key, t, z44⟩ List.mem_cons_self
        unfold ltC at this
        simp only at this
        omega
      · have := hp2.1 d h
        unfold ltC at this
        simp only at this
        omega
    rcases List.mem_append.1 hc with h | h
    · exact .inr ⟨hno _ (List.mem_of_mem_take h), List.mem_of_mem_take h⟩
    · rcases List.mem_cons.1 h with rfl | h
      · exact .inl ⟨rfl, .inr ⟨hno, rfl⟩⟩
      · exact .inr ⟨hno _ (List.mem_of_mem_drop h), List.mem_of_mem_drop h⟩
/-- The same keys are there as before, and the new one. -/
theorem takeS_has (key v t : Int) (l : List S46) (hs : srt l) : (∃ c ∈ takeS key v t l, keyC c = (key, t)) ∧ ∀ d ∈ l, ∃ c ∈ takeS key v t l, keyC c = keyC d := by
  obtain ⟨p1, p2⟩ := place l ⟨key, t, z44⟩ hs
  have hle : bsI l ⟨key, t, z44⟩ ≤ l.length := bsL_le l _ (l.length + 1) 0 l.length (Nat.zero_le _)
  unfold takeS
  simp only
  cases hb : bsF l ⟨key, t, z44⟩ with
  | true =>
    rw [if_pos rfl]
    obtain ⟨hi, hk⟩ := p1 hb
    rw [rd_get l _ hi] at hk ⊢
    have hset : ∀ j (hj : j < l.length), ∃ c ∈ l.set (bsI l ⟨key, t, z44⟩) ⟨l[bsI l ⟨key, t, z44⟩].f0, l[bsI l ⟨key, t, z44⟩].f1, addP l[bsI l ⟨key, t, z44⟩].f2 v⟩, keyC c = keyC l[j] := by
      intro j hj
      by_cases e : bsI l ⟨key, t, z44⟩ = j
      · subst e
        exact ⟨_, List.mem_set hi _, rfl⟩
      · refine ⟨l[j], ?_, rfl⟩
        rw [List.mem_iff_getElem]
        exact ⟨j, by rw [List.length_set]; exact hj, by rw [List.getElem_set, if_neg e]⟩
    refine ⟨?_, fun d hd => ?_⟩
    · obtain ⟨c, h1, h2⟩ := hset _ hi
      exact ⟨c, h1, h2.trans hk⟩
    · obtain ⟨j, hj, rfl⟩ := List.mem_iff_getElem.1 hd
      exact hset j hj
  | false =>
    rw [if_neg (by decide)]
    have hlen : (l.take (bsI l ⟨key, t, z44⟩)).length = bsI l ⟨key, t, z44⟩ := by rw [List.length_take]; omega
    have hrd : rd_T46 (l.take (bsI l ⟨key, t, z44⟩) ++ (⟨key, t, z44⟩ : S46) :: l.drop (bsI l ⟨key, t, z44⟩)) (bsI l ⟨key, t, z44⟩ : Int) = ⟨key, t, z44⟩ := by
      rw [rd_get _ _ (by simp; omega)]
      rw [List.getElem_append_right (by omega)]
      simp [hlen]
    rw [hrd, List.set_append_right _ _ (by omega), hlen, Nat.sub_self, List.set_cons_zero]
    refine ⟨⟨_, List.mem_append_right _ List.mem_cons_self, rfl⟩, fun d hd => ?_⟩
    rw [← List.take_append_drop (bsI l ⟨key, t, z44⟩) l] at hd
    rcases List.mem_append.1 hd with h | h
    · exact ⟨d, List.mem_append_left _ h, rfl⟩
    · exact ⟨d, List.mem_append_right _ (List.mem_cons_of_mem _ h), rfl⟩
/-- How many numbers there are in a row of windows. -/
def cntC (l : List S46) : Int := (l.map (fun c => c.f2.f0)).sum
theorem cntC_app (a b : List S46) : cntC (a ++ b) = cntC a + cntC b := by unfold cntC; rw [List.map_append, List.sum_append]
theorem cntC_cons (c : S46) (l : List S46) : cntC (c :: l) = c.f2.f0 + cntC l := by unfold cntC; rw [List.map_cons, List.sum_cons]
theorem takeS_cnt (key v t : Int) (l : List S46) (hs : srt l) (hw : ∀ c ∈ l, aggW c.f2 ∧ c.f2.f0 < 1000000000) : cntC (takeS key v t l) = cntC l + 1 := by
  obtain ⟨p1, p2⟩ := place l ⟨key, t, z44⟩ hs
  have hle : bsI l ⟨key, t, z44⟩ ≤ l.length := bsL_le l _ (l.length + 1) 0 l.length (Nat.zero_le _)
  unfold takeS
  simp only
  cases hb : bsF l ⟨key, t, z44⟩ with
  | true =>
    rw [if_pos rfl]
    obtain ⟨hi, hk⟩ := p1 hb
    rw [rd_get l _ hi]
    obtain ⟨h1, h2⟩ := hw _ (List.getElem_mem hi)
    have hadd := (aggW_add h1 h2 v).2
    rw [List.set_eq_take_append_cons_drop, if_pos hi, cntC_app, cntC_cons]
    have hl : l = l.take (bsI l ⟨key, t, z44⟩) ++ l[bsI l ⟨key, t, z44⟩] :: l.drop (bsI l ⟨key, t, z44⟩ + 1) := by
      rw [← List.drop_eq_getElem_cons hi, List.take_append_drop]
    have hc := congrArg cntC hl
    rw [cntC_app, cntC_cons] at hc
    simp only
    omega
  | false =>
    rw [if_neg (by decide)]
    have hlen : (l.take (bsI l ⟨key, t, z44⟩)).length = bsI l ⟨key, t, z44⟩ := by rw [List.length_take]; omega
    have hrd : rd_T46 (l.take (bsI l ⟨key, t, z44⟩) ++ (⟨key, t, z44⟩ : S46) :: l.drop (bsI l ⟨key, t, z44⟩)) (bsI l ⟨key, t, z44⟩ : Int) = ⟨key, t, z44⟩ := by
      rw [rd_get _ _ (by simp; omega)]
      rw [List.getElem_append_right (by omega)]
      simp [hlen]
    have hadd := (aggW_add aggW_zero (by decide) v).2
    rw [hrd, List.set_append_right _ _ (by omega), hlen, Nat.sub_self, List.set_cons_zero, cntC_app, cntC_cons]
    have hc := congrArg cntC (List.take_append_drop (bsI l ⟨key, t, z44⟩) l)
    rw [cntC_app] at hc
    have hz : z44.f0 = 0 := rfl
    simp only
    omega
theorem cntC_filter (p : S46 → Bool) : ∀ l : List S46, cntC (l.filter p) + cntC (l.filter (fun c => !p c)) = cntC l
  | [] => rfl
  | c :: l => by
    have := cntC_filter p l
    rw [cntC_cons, List.filter_cons, List.filter_cons]
    cases hp : p c
    · simp only [Bool.false_eq_true, if_false, Bool.not_false, if_true]
      rw [cntC_cons]
      omega
    · simp only [Bool.not_true, Bool.false_eq_true, if_false, if_true]
      rw [cntC_cons]
      omega
end
section
open Go.RowKit Go.Proofs.YtgipepjpkmlmaaaW.PrintWords Go.Proofs.YtgipepjpkmlmaaaW.PrintLast Go.Proofs.YtgipepjpkmlmaaaW.PrintMore

theorem takeN_cons (key v t : Int) (ts : List Int) (l : List S46) : takeN key v (t :: ts) l = takeN key v ts (takeS key v t l) := rfl
theorem takeN_spec (key v : Int) : ∀ (ts : List Int) (l : List S46), srt l → ts.Nodup → ∀ c ∈ takeN key v ts l,
    (c.f0 = key ∧ c.f1 ∈ ts ∧ ((∃ d ∈ l, keyC d = keyC c ∧ c.f2 = addP d.f2 v) ∨ ((∀ d ∈ l, keyC d ≠ keyC c) ∧ c.f2 = addP z44 v))) ∨ (¬(c.f0 = key ∧ c.f1 ∈ ts) ∧ c ∈ l)
  | [], l, hs, hn, c, hc => .inr ⟨fun h => (List.not_mem_nil h.2), hc⟩
  | t :: ts, l, hs, hn, c, hc => by
    rw [takeN_cons] at hc
    rw [List.nodup_cons] at hn
    have hsp := takeS_spec key v t l hs
    have hha := takeS_has key v t l hs
    rcases takeN_spec key v ts (takeS key v t l) (takeS_srt key v t l hs) hn.2 c hc with ⟨h1, h2, h3⟩ | ⟨h1, h2⟩
    · refine .inl ⟨h1, List.mem_cons_of_mem _ h2, ?_⟩
      rcases h3 with ⟨d, hd, hk, he⟩ | ⟨hno, he⟩
      · rcases hsp d hd with ⟨hk2, _⟩ | ⟨_, hd2⟩
        · exfalso
          have e : keyC c = (key, t) := hk.symm.trans hk2
          unfold keyC at e
          injection e with _ e2
          rw [e2] at h2
          exact hn.1 h2
        · exact .inl ⟨d, hd2, hk, he⟩
      · refine .inr ⟨fun d hd e => ?_, he⟩
        obtain ⟨c2, hc2, hk2⟩ := hha.2 d hd
        exact hno c2 hc2 (hk2.trans e)
    · rcases hsp c h2 with ⟨hk, h3⟩ | ⟨hk, h3⟩
      · have e := hk
        unfold keyC at e
        injection e with e1 e2
        refine .inl ⟨e1, by rw [e2]; exact List.mem_cons_self, ?_⟩
        rcases h3 with ⟨d, hd, hk2, he⟩ | ⟨hno, he⟩
        · exact .inl ⟨d, hd, hk2.trans hk.symm, he⟩
        · exact .inr ⟨fun d hd e => hno d hd (e.trans hk), he⟩
      · refine .inr ⟨fun h => ?_, h3⟩
        rcases List.mem_cons.1 h.2 with e | e
        · exact hk (by unfold keyC; rw [h.1, e])
        · exact h1 ⟨h.1, e⟩
theorem takeN_has (key v : Int) : ∀ (ts : List Int) (l : List S46), srt l → (∀ t ∈ ts, ∃ c ∈ takeN key v ts l, keyC c = (key, t)) ∧ ∀ d ∈ l, ∃ c ∈ takeN key v ts l, keyC c = keyC d
  | [], l, hs => ⟨fun t h => absurd h List.not_mem_nil, fun d hd => ⟨d, hd, rfl⟩⟩
  | t :: ts, l, hs => by
    obtain ⟨i1, i2⟩ := takeN_has key v ts (takeS key v t l) (takeS_srt key v t l hs)
    obtain ⟨⟨c0, h0, hk0⟩, h2⟩ := takeS_has key v t l hs
    rw [takeN_cons]
    refine ⟨fun u hu => ?_, fun d hd => ?_⟩
    · rcases List.mem_cons.1 hu with rfl | hu
      · obtain ⟨c, hc, hk⟩ := i2 c0 h0
        exact ⟨c, hc, hk.trans hk0⟩
      · exact i1 u hu
    · obtain ⟨c1, hc1, hk1⟩ := h2 d hd
      obtain ⟨c, hc, hk⟩ := i2 c1 hc1
      exact ⟨c, hc, hk.trans hk1⟩
theorem takeN_cnt (key v : Int) : ∀ (ts : List Int) (l : List S46) (N : Int), srt l → (∀ c ∈ l, aggW c.f2 ∧ c.f2.f0 < N) → 0 < N → N + ts.length ≤ 1000000000 → cntC (takeN key v ts l) = cntC l + ts.length
  | [], l, N, hs, hw, _, hN => by simp [takeN]
  | t :: ts, l, N, hs, hw, h0, hN => by
    rw [List.length_cons] at hN
    have h1 := takeS_cnt key v t l hs (fun c hc => ⟨(hw c hc).1, by have := (hw c hc).2; omega⟩)
    have h2 := takeN_cnt key v ts (takeS key v t l) (N + 1) (takeS_srt key v t l hs) (fun c hc => ?_) (by omega) (by omega)
    · rw [takeN_cons, h2, h1, List.length_cons]
      omega
    · rcases takeS_spec key v t l hs c hc with ⟨_, h3⟩ | ⟨_, h3⟩
      · rcases h3 with ⟨d, hd, _, he⟩ | ⟨_, he⟩
        · obtain ⟨a, b⟩ := hw d hd
          obtain ⟨e, f⟩ := aggW_add a (by omega) v
          rw [he]
          exact ⟨e, by omega⟩
        · obtain ⟨e, f⟩ := aggW_add aggW_zero (by decide) v
          have hz : z44.f0 = 0 := rfl
          rw [he]
          exact ⟨e, by omega⟩
      · have := hw c h3
        exact ⟨this.1, by omega⟩
/-! ### What is told, and what is open, is what the numbers come to -/
def allA (vs : List Int) : S44 := vs.foldl addP z44
theorem allA_snoc (vs : List Int) (v : Int) : allA (vs ++ [v]) = addP (allA vs) v := by unfold allA; rw [List.foldl_append]; rfl
/-- Is a record one of a window's? -/
def inW (g : S23) (c : S46) (r : S50) : Bool := (r.f0 == c.f0) && (decide (r.f1 ≥ c.f1) && decide (r.f1 < c.f1 + g.f0))
def mineP (g : S23) (c : S46) (rs : List S50) : List Int := (rs.filter (inW g c)).map (fun r => (valP r.f2).1)
theorem mineP_key (g : S23) (c d : S46) (rs : List S50) (h : keyC d = keyC c) : mineP g d rs = mineP g c rs := by
  unfold keyC at h
  injection h with h1 h2
  unfold mineP
  have : inW g d = inW g c := by
    funext r
    unfold inW
    rw [h1, h2]
  rw [this]
theorem mineP_snoc (g : S23) (c : S46) (rs : List S50) (r : S50) : mineP g c (rs ++ [r]) = mineP g c rs ++ if inW g c r = true then [(valP r.f2).1] else [] := by
  unfold mineP
  rw [List.filter_append, List.map_append]
  cases h : inW g c r <;> simp [h]
structure WholeI (g : S23) (rs : List S50) (s : S28) (all : List S46) : Prop where
  once : OnceI g s all
  agg : ∀ c ∈ all ++ s.f4, c.f2 = allA (mineP g c rs)
  has : ∀ r ∈ rs, ∀ a ∈ startsP g r.f1, ∃ c ∈ all ++ s.f4, keyC c = (r.f0, a)
  hop : ∀ c ∈ all ++ s.f4, 0 ≤ c.f1 ∧ Int.tmod c.f1 g.f1 = 0
  mark : ∀ r ∈ rs, r.f1 ≤ s.f0
  tim : ∀ r ∈ rs, 0 ≤ r.f1 ∧ r.f1 ≤ 1099511627776
  cnt : cntC (all ++ s.f4) = (rs.map (fun r => ((startsP g r.f1).length : Int))).sum
theorem startL_nodup (g : S23) (t : Int) (hg : chkG g = true) (h0 : 0 ≤ t) (h1 : t ≤ 1099511627776) : ∀ (k i : Nat), i + k ≤ 8 → (startL g t k (i : Int)).Nodup
  | 0, i, _ => by rw [startL]; exact List.nodup_nil
  | k + 1, i, hk => by
    have ih := startL_nodup g t hg h0 h1 k (i + 1) (by omega)
    rw [startL]
    split
    · refine List.nodup_cons.2 ⟨fun h => ?_, ih⟩
      obtain ⟨j, j0, j1, e, _⟩ := startL_mem g t k _ _ h
      obtain ⟨n, rfl⟩ := Int.eq_ofNat_of_zero_le (show 0 ≤ j by omega)
      rw [stAt_eq hg h0 h1 i (by omega), stAt_eq hg h0 h1 n (by omega)] at e
      have hf := (chkG_spec hg).2.2.1
      have hm : g.f1 * ((i : Int) + 1) < g.f1 * ((n : Int) + 1) := Int.mul_lt_mul_of_pos_left (by omega) (by omega)
      unfold stN at e
      omega
    · exact ih
theorem starts_nodup {g : S23} {t : Int} (hg : chkG g = true) (h0 : 0 ≤ t) (h1 : t ≤ 1099511627776) : (startsP g t).Nodup := by
  obtain ⟨q, q1, q8, qf, qw⟩ := grid_q hg
  unfold startsP
  rw [qw, Int.toNat_natCast]
  exact startL_nodup g t hg h0 h1 q 0 (by omega)
theorem closed_iff {g : S23} (hg : chkG g = true) (a m : Int) (h0 : -1 ≤ m) (h1 : m ≤ 1099511627776) : closedP g a m = true ↔ 0 ≤ m ∧ a ≤ m - g.f0 - g.f2 := by
  obtain ⟨g0, g1, g2, g3, g4, g5, g6, g7⟩ := chkG_spec hg
  have w : wrap64 (wrap64 (m - g.f0) - g.f2) = m - g.f0 - g.f2 := by unfold wrap64; omega
  unfold closedP
  rw [hg, w]
  simp
/-- A record that comes in time and is not dropped keeps it. -/
theorem whole_feed {g : S23} {rs : List S50} {s : S28} {all : List S46} {r : S50} (h : WholeI g rs s all) (hn : s.f3 < 1000000) (k0 : 0 ≤ r.f0) (k1 : r.f0 ≤ 1048576) (t0 : 0 ≤ r.f1) (t1 : r.f1 ≤ 1099511627776)
    (hm : s.f0 ≤ r.f1) (hv : (valP r.f2).2 = true) (hlate : (feedP g s r).1.f1 = s.f1) : WholeI g (rs ++ [r]) (feedP g s r).1 (all ++ (feedP g s r).2.1) := by
  have hi := h.once.inv
  have hg := hi.grid
  obtain ⟨g0, g1, g2, g3, g4, g5, g6, g7⟩ := chkG_spec hg
  have he := (late_law hi hn k0 k1 t0 t1).1
  have hon := once_feed h.once hn he
  have hmk : -1 ≤ s.f0 ∧ s.f0 ≤ 1099511627776 := by have := hi.mark; omega
  have hmem := fun a => mem_starts hg t0 t1 a
  have hst : keepI g s.f0 (startsP g r.f1) = startsP g r.f1 := by
    unfold keepI
    refine List.filter_eq_self.2 (fun a ha => ?_)
    have := (hmem a).1 ha
    cases hc : closedP g a s.f0 with
    | false => rfl
    | true =>
      have := (closed_iff hg a s.f0 hmk.1 hmk.2).1 hc
      omega
  have hmx : mx s.f0 r.f1 = r.f1 := by unfold mx; split <;> omega
  have hc : (checkP g s && ([r.f0, r.f1].all inB && !decide (r.f0 > 1048576))) = true := by
    rw [inv_check hi]
    simp only [List.all_cons, List.all_nil, Bool.and_true, Bool.true_and]
    rw [inB_of k0 (by omega), inB_of t0 t1, decide_eq_false (by omega)]
    rfl
  obtain ⟨L, hL⟩ : ∃ q, takeN r.f0 (valP r.f2).1 (startsP g r.f1) s.f4 = q := ⟨_, rfl⟩
  have hform : (feedP g s r).1.f0 = r.f1 ∧ (feedP g s r).1.f4 = L.filter (fun c => !closedP g c.f1 r.f1) ∧ (feedP g s r).2.1 = L.filter (fun c => closedP g c.f1 r.f1) := by
    have hl1 := hi.late
    have hl2 := hi.lb
    have hl3 := hi.bad
    have hl4 := hi.n1
    have hw : wrap64 (s.f1 + 1) = s.f1 + 1 := by unfold wrap64; omega
    revert hlate
    unfold feedP
    rw [if_pos hc, if_neg (by omega), if_pos hv]
    simp only [hst, hmx, hL]
    intro hlate
    cases hd : (decide ((startsP g r.f1).length = 0) || !decide (L.length ≤ 64)) with
    | true =>
      rw [hd, if_pos rfl, hw] at hlate
      omega
    | false =>
      simp only [Bool.false_eq_true, if_false]
      exact ⟨trivial, trivial, trivial⟩
  obtain ⟨f1, f2, f3⟩ := hform
  have hnd := starts_nodup hg t0 t1
  have hspec := takeN_spec r.f0 (valP r.f2).1 (startsP g r.f1) s.f4 hi.ord hnd
  have hhas := takeN_has r.f0 (valP r.f2).1 (startsP g r.f1) s.f4 hi.ord
  rw [hL] at hspec hhas
  have hcells : ∀ c, c ∈ all ++ (feedP g s r).2.1 ++ (feedP g s r).1.f4 ↔ c ∈ all ∨ c ∈ L := by
    intro c
    rw [f2, f3, List.mem_append, List.mem_append, List.mem_filter, List.mem_filter]
    constructor
    · rintro ((h1 | h1) | h1)
      · exact .inl h1
      · exact .inr h1.1
      · exact .inr h1.1
    · rintro (h1 | h1)
      · exact .inl (.inl h1)
      · cases hb : closedP g c.f1 r.f1 with
        | true => exact .inl (.inr ⟨h1, rfl⟩)
        | false => exact .inr ⟨h1, rfl⟩
  have hallc : ∀ c ∈ all, c.f1 + g.f0 ≤ r.f1 := by
    intro c hc
    have := (closed_iff hg c.f1 s.f0 hmk.1 hmk.2).1 (h.once.cl c hc)
    omega
  refine ⟨hon, fun c hcc => ?_, fun r2 hr2 a ha => ?_, fun c hcc => ?_, fun r2 hr2 => ?_, fun r2 hr2 => ?_, ?_⟩
  · rw [mineP_snoc]
    rcases (hcells c).1 hcc with h1 | h1
    · have hw : inW g c r = false := by
        have := hallc c h1
        unfold inW
        rw [decide_eq_false (show ¬ r.f1 < c.f1 + g.f0 by omega)]
        simp
      rw [hw, if_neg (by decide), List.append_nil]
      exact h.agg c (List.mem_append_left _ h1)
    · rcases hspec c h1 with ⟨e1, e2, e3⟩ | ⟨e1, e2⟩
      · have hms := (hmem c.f1).1 e2
        have hw : inW g c r = true := by
          unfold inW
          rw [e1, decide_eq_true (show r.f1 ≥ c.f1 by omega), decide_eq_true (show r.f1 < c.f1 + g.f0 by omega)]
          simp
        rw [hw, if_pos rfl, allA_snoc]
        rcases e3 with ⟨d, hd, hk, he2⟩ | ⟨hno, he2⟩
        · rw [he2, h.agg d (List.mem_append_right _ hd), mineP_key g c d rs hk]
        · have hnil : mineP g c rs = [] := by
            unfold mineP
            rw [List.map_eq_nil_iff, List.filter_eq_nil_iff]
            intro r2 hr2 hin
            unfold inW at hin
            simp only [Bool.and_eq_true, beq_iff_eq, decide_eq_true_eq] at hin
            have ht2 := h.tim r2 hr2
            have hs2 : c.f1 ∈ startsP g r2.f1 := (mem_starts hg ht2.1 ht2.2 c.f1).2 ⟨hms.1, hms.2.1, by omega, by omega⟩
            obtain ⟨c2, hc2, hk2⟩ := h.has r2 hr2 _ hs2
            have hkc : keyC c2 = keyC c := by rw [hk2, hin.1]; rfl
            rcases List.mem_append.1 hc2 with h3 | h3
            · have := hallc c2 h3
              unfold keyC at hkc
              injection hkc with _ hk4
              omega
            · exact hno c2 h3 hkc
          rw [he2, hnil]
          rfl
      · have hho := h.hop c (List.mem_append_right _ e2)
        have hw : inW g c r = false := by
          cases hb : inW g c r with
          | false => rfl
          | true =>
            unfold inW at hb
            simp only [Bool.and_eq_true, beq_iff_eq, decide_eq_true_eq] at hb
            exact absurd ⟨hb.1.symm, (hmem c.f1).2 ⟨hho.1, hho.2, by omega, by omega⟩⟩ e1
        rw [hw, if_neg (by decide), List.append_nil]
        exact h.agg c (List.mem_append_right _ e2)
  · rcases List.mem_append.1 hr2 with h1 | h1
    · obtain ⟨c, hc1, hk⟩ := h.has r2 h1 a ha
      rcases List.mem_append.1 hc1 with h2 | h2
      · exact ⟨c, (hcells c).2 (.inl h2), hk⟩
      · obtain ⟨c2, hc2, hk2⟩ := hhas.2 c h2
        exact ⟨c2, (hcells c2).2 (.inr hc2), hk2.trans hk⟩
    · obtain rfl := List.mem_singleton.1 h1
      obtain ⟨c, hc1, hk⟩ := hhas.1 a ha
      exact ⟨c, (hcells c).2 (.inr hc1), hk⟩
  · rcases (hcells c).1 hcc with h1 | h1
    · exact h.hop c (List.mem_append_left _ h1)
    · rcases hspec c h1 with ⟨e1, e2, _⟩ | ⟨_, e2⟩
      · have := (hmem c.f1).1 e2
        exact ⟨this.1, this.2.1⟩
      · exact h.hop c (List.mem_append_right _ e2)
  · rw [f1]
    rcases List.mem_append.1 hr2 with h1 | h1
    · have := h.mark r2 h1
      omega
    · obtain rfl := List.mem_singleton.1 h1
      omega
  · rcases List.mem_append.1 hr2 with h1 | h1
    · exact h.tim r2 h1
    · obtain rfl := List.mem_singleton.1 h1
      exact ⟨t0, t1⟩
  · rw [cntC_app, cntC_app, f2, f3]
    have hcf := cntC_filter (fun c => closedP g c.f1 r.f1) L
    have hn1 := hi.n1
    have hn0 := hi.n0
    have hsl := startsP_length g r.f1 hg
    have hct := takeN_cnt r.f0 (valP r.f2).1 (startsP g r.f1) s.f4 100000000 hi.ord (fun c hc => ⟨(hi.each c hc).agg, by have := (hi.each c hc).cnt; omega⟩) (by omega) (by omega)
    rw [hL] at hct
    have hold := h.cnt
    rw [cntC_app] at hold
    rw [List.map_append, List.sum_append, List.map_cons, List.map_nil, List.sum_cons, List.sum_nil]
    omega
end
section
open Go.RowKit Go.Proofs.YtgipepjpkmlmaaaW.PrintWords Go.Proofs.YtgipepjpkmlmaaaW.PrintLast Go.Proofs.YtgipepjpkmlmaaaW.PrintMore

/-- A record that the law makes. -/
structure RecOk (r : S50) : Prop where
  k0 : 0 ≤ r.f0
  k1 : r.f0 ≤ 1
  t0 : 0 ≤ r.f1
  t1 : r.f1 ≤ 1099511627776
  v : (valP r.f2).2 = true
def chainT : Int → List S50 → Prop
  | _, [] => True
  | τ, r :: rs => RecOk r ∧ τ ≤ r.f1 ∧ (τ = -1 ∨ r.f1 ≤ τ + 15) ∧ chainT r.f1 rs
/-- Windows of two keys in a row that begin within fifteen are at most thirty. -/
theorem few_cells (l : List S46) (hs : srt l) (B : Int) (hk : ∀ c ∈ l, 0 ≤ c.f0 ∧ c.f0 ≤ 1 ∧ B < c.f1 ∧ c.f1 ≤ B + 15) : l.length ≤ 30 := by
  have key : ∀ i : Nat, i < l.length → (i : Int) ≤ 2 * ((rd_T46 l (i : Int)).f1 - B - 1) + (rd_T46 l (i : Int)).f0 := by
    intro i
    induction i with
    | zero =>
      intro h
      have := hk _ (by rw [rd_get l 0 h]; exact List.getElem_mem h : rd_T46 l ((0 : Nat) : Int) ∈ l)
      omega
    | succ i ih =>
      intro h
      have h1 := ih (by omega)
      have h2 := hs i (i + 1) (by omega) h
      have a := hk _ (by rw [rd_get l i (by omega)]; exact List.getElem_mem _ : rd_T46 l (i : Int) ∈ l)
      have b := hk _ (by rw [rd_get l (i + 1) h]; exact List.getElem_mem h : rd_T46 l ((i + 1 : Nat) : Int) ∈ l)
      unfold ltC at h2
      omega
  rcases Nat.lt_or_ge 30 l.length with h | h
  · exfalso
    have h1 := key 30 h
    have a := hk _ (by rw [rd_get l 30 h]; exact List.getElem_mem h : rd_T46 l ((30 : Nat) : Int) ∈ l)
    omega
  · exact h
/-- What one record of the law's does, dropped or not: no error, the mark is its time, and some window is open. -/
theorem beat_feed {g : S23} {s : S28} {r : S50} (hi : Inv g s) (hn : s.f3 < 1000000) (ho : RecOk r) (hm : s.f0 ≤ r.f1) (ht : s.f0 = -1 ∨ r.f1 ≤ s.f0 + 15) (hk : ∀ c ∈ s.f4, 0 ≤ c.f0 ∧ c.f0 ≤ 1) :
    (feedP g s r).2.2 = 0 ∧ (feedP g s r).1.f0 = r.f1 ∧ (feedP g s r).1.f4 ≠ [] ∧ ((feedP g s r).1.f1 = s.f1 ∨ (feedP g s r).1.f1 = s.f1 + 1) ∧ (∀ c ∈ (feedP g s r).1.f4, 0 ≤ c.f0 ∧ c.f0 ≤ 1) := by
  obtain ⟨k0, k1, t0, t1, hv⟩ := ho
  have hg := hi.grid
  obtain ⟨g0, g1, g2, g3, g4, g5, g6, g7⟩ := chkG_spec hg
  have hmk : -1 ≤ s.f0 ∧ s.f0 ≤ 1099511627776 := by have := hi.mark; omega
  have he := (late_law hi hn k0 (by omega) t0 t1).1
  have hmem := fun a => mem_starts hg t0 t1 a
  have hst : keepI g s.f0 (startsP g r.f1) = startsP g r.f1 := by
    unfold keepI
    refine List.filter_eq_self.2 (fun a ha => ?_)
    have := (hmem a).1 ha
    cases hc : closedP g a s.f0 with
    | false => rfl
    | true =>
      have := (closed_iff hg a s.f0 hmk.1 hmk.2).1 hc
      omega
  have hmx : mx s.f0 r.f1 = r.f1 := by unfold mx; split <;> omega
  have hc : (checkP g s && ([r.f0, r.f1].all inB && !decide (r.f0 > 1048576))) = true := by
    rw [inv_check hi]
    simp only [List.all_cons, List.all_nil, Bool.and_true, Bool.true_and]
    rw [inB_of k0 (by omega), inB_of t0 t1, decide_eq_false (by omega)]
    rfl
  obtain ⟨L, hL⟩ : ∃ q, takeN r.f0 (valP r.f2).1 (startsP g r.f1) s.f4 = q := ⟨_, rfl⟩
  have hhas := takeN_has r.f0 (valP r.f2).1 (startsP g r.f1) s.f4 hi.ord
  have hkey := takeN_key r.f0 (valP r.f2).1 (startsP g r.f1) s.f4 hi.ord
  have hlen := takeN_length r.f0 (valP r.f2).1 (startsP g r.f1) s.f4
  rw [hL] at hhas hkey hlen
  have hsl := startsP_length g r.f1 hg
  have hlast := starts_last hg t0 t1
  have hne : (startsP g r.f1).length ≠ 0 := fun h => by
    rw [List.length_eq_zero_iff] at h
    rw [h] at hlast
    cases hlast
  have hopen : ∀ a ∈ startsP g r.f1, closedP g a r.f1 = false := by
    intro a ha
    have := (hmem a).1 ha
    cases hc2 : closedP g a r.f1 with
    | false => rfl
    | true =>
      have := (closed_iff hg a r.f1 (by omega) t1).1 hc2
      omega
  have hLk : ∀ c ∈ L, 0 ≤ c.f0 ∧ c.f0 ≤ 1 := by
    intro c hcL
    rcases hkey c hcL with ⟨d, hd, e⟩ | ⟨t, _, e⟩
    · unfold keyC at e
      injection e with e1 _
      rw [e1]
      exact hk d hd
    · unfold keyC at e
      injection e with e1 _
      rw [e1]
      exact ⟨k0, k1⟩
  have hl1 := hi.late
  have hl2 := hi.lb
  have hl3 := hi.bad
  have hl4 := hi.n1
  have hw : wrap64 (s.f1 + 1) = s.f1 + 1 := by unfold wrap64; omega
  refine ⟨he, ?_⟩
  unfold feedP
  rw [if_pos hc, if_neg (by omega), if_pos hv]
  simp only [hst, hmx, hL]
  cases hd : (decide ((startsP g r.f1).length = 0) || !decide (L.length ≤ 64)) with
  | true =>
    simp only [if_true, hw]
    refine ⟨trivial, fun hnil => ?_, .inr trivial, fun c hc => hk c (List.mem_filter.1 hc).1⟩
    rw [decide_eq_false hne, Bool.false_or] at hd
    have hL64 : 64 < L.length := by
      rcases Nat.lt_or_ge 64 L.length with h | h
      · exact h
      · rw [decide_eq_true h] at hd; cases hd
    rw [List.filter_eq_nil_iff] at hnil
    have h30 := few_cells s.f4 hi.ord (s.f0 - g.f0 - g.f2) (fun c hc => by
      have h1 := hk c hc
      have h2 := hi.op c hc
      have h3 := (hi.each c hc).s0
      have h4 := (hi.each c hc).le
      have h5 : closedP g c.f1 r.f1 = true := by
        cases hb : closedP g c.f1 r.f1 with
        | true => rfl
        | false => exact absurd (by rw [hb]; rfl) (hnil c hc)
      have h6 := (closed_iff hg c.f1 r.f1 (by omega) t1).1 h5
      have h7 : ¬ (0 ≤ s.f0 ∧ c.f1 ≤ s.f0 - g.f0 - g.f2) := fun h => by
        rw [(closed_iff hg c.f1 s.f0 hmk.1 hmk.2).2 h] at h2
        cases h2
      omega)
    omega
  | false =>
    simp only [Bool.false_eq_true, if_false]
    refine ⟨trivial, fun hnil => ?_, .inl trivial, fun c hc => hLk c (List.mem_filter.1 hc).1⟩
    obtain ⟨c, hcL, hck⟩ := hhas.1 _ hlast
    unfold keyC at hck
    injection hck with _ e2
    have : c ∈ L.filter (fun c => !closedP g c.f1 r.f1) := List.mem_filter.2 ⟨hcL, by rw [e2, hopen _ hlast]; rfl⟩
    rw [hnil] at this
    cases this
/-- All the law's records. -/
theorem whole_run (g : S23) : ∀ (l rs : List S50) (s : S28) (all : List S46), Inv g s → (∀ c ∈ s.f4, 0 ≤ c.f0 ∧ c.f0 ≤ 1) → chainT s.f0 l → s.f3 + l.length ≤ 1000000 → (0 < s.f1 → s.f4 ≠ []) →
    (runL g l s all).2.2 = 0 ∧ s.f1 ≤ (runL g l s all).1.f1 ∧ (0 < (runL g l s all).1.f1 → (runL g l s all).1.f4 ≠ []) ∧ (WholeI g rs s all → (runL g l s all).1.f1 = s.f1 → WholeI g (rs ++ l) (runL g l s all).1 (runL g l s all).2.1)
  | [], rs, s, all, hi, hk, hc, hn, hz => ⟨rfl, Int.le_refl _, hz, fun h _ => by rw [List.append_nil]; exact h⟩
  | r :: l, rs, s, all, hi, hk, hc, hn, hz => by
    obtain ⟨ho, hm, ht, hc2⟩ := hc
    rw [List.length_cons] at hn
    obtain ⟨he, hf0, hf4, hf1, hfk⟩ := beat_feed hi (by omega) ho hm ht hk
    have hfn := feed_n hi he
    obtain ⟨i1, i2, i3, i4⟩ := whole_run g l (rs ++ [r]) (feedP g s r).1 (all ++ (feedP g s r).2.1) (inv_feed hi (by omega) he) hfk (by rw [hf0]; exact hc2) (by omega) (fun _ => hf4)
    rw [runL, if_pos he]
    refine ⟨i1, by omega, i3, fun hw hl => ?_⟩
    have hsame : (feedP g s r).1.f1 = s.f1 := by omega
    have h1 := whole_feed hw (by omega) ho.k0 (by have := ho.k1; omega) ho.t0 ho.t1 hm ho.v hsame
    have h2 := i4 h1 (by omega)
    rw [show rs ++ r :: l = (rs ++ [r]) ++ l by simp]
    exact h2
theorem whole_law (g : S23) (l : List S50) (hg : chkG g = true) (hl : l.length ≤ 1000) (hc : chainT (-1) l) :
    (runP g awZ l).2.2 = 0 ∧ (0 < (runP g awZ l).1.f1 → (runP g awZ l).1.f4 ≠ []) ∧ ((runP g awZ l).1.f1 ≤ 0 → WholeI g l (runP g awZ l).1 (runP g awZ l).2.1) := by
  have hi := inv_zero hg
  have hz : (awZ).f3 = 0 := rfl
  have hz1 : (awZ).f1 = 0 := rfl
  obtain ⟨i1, i2, i3, i4⟩ := whole_run g l [] awZ [] hi (fun c h => by cases h) hc (by rw [hz]; omega) (fun h => by rw [hz1] at h; omega)
  unfold runP
  rw [if_pos (inv_check hi)]
  refine ⟨i1, i3, fun h => ?_⟩
  have h0 : WholeI g [] awZ [] := ⟨⟨hi, (fun c h => by cases h), List.Pairwise.nil⟩, (fun c h => by cases h), (fun r h => by cases h), (fun c h => by cases h), (fun r h => by cases h), (fun r h => by cases h), rfl⟩
  rw [hz1] at i2
  exact i4 h0 (by rw [hz1]; omega)
/-- How many numbers a window has. -/
theorem allA_cnt : ∀ (vs : List Int), vs.length ≤ 1000000 → aggW (allA vs) ∧ (allA vs).f0 = vs.length := by
  intro vs
  have key : ∀ (n : Nat) (vs : List Int), vs.length = n → n ≤ 1000000 → aggW (allA vs) ∧ (allA vs).f0 = (n : Int) := by
    intro n
    induction n with
    | zero =>
      intro vs h _
      obtain rfl := List.length_eq_zero_iff.1 h
      exact ⟨aggW_zero, rfl⟩
    | succ n ih =>
      intro vs h hn
      have hne : vs ≠ [] := fun e => by rw [e] at h; cases h
      have hd := List.dropLast_concat_getLast hne
      obtain ⟨a, b⟩ := ih vs.dropLast (by rw [List.length_dropLast]; omega) (by omega)
      rw [← hd, allA_snoc]
      obtain ⟨c, d⟩ := aggW_add a (by omega) (vs.getLast hne)
      exact ⟨c, by omega⟩
  exact fun h => key vs.length vs rfl h
end
end Go.Proofs.Ytgipepjpkmlmaaa.P
