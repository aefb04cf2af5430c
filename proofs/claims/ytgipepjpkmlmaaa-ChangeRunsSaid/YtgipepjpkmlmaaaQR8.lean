import Derived.Lib.Strings
import Derived.Laws.Bits64
import Derived.Test.YtgipepjpkmlmaaaQR2
import Derived.Test.YtgipepjpkmlmaaaQR3
import Derived.Test.YtgipepjpkmlmaaaQR4
import Derived.Test.YtgipepjpkmlmaaaQR5
import Derived.Test.YtgipepjpkmlmaaaQR6
import Derived.Test.YtgipepjpkmlmaaaQR7
namespace Go.Proofs.Ytgipepjpkmlmaaa.P
open Go.RowKit Go.Proofs.YtgipepjpkmlmaaaW.PrintWords Go.Proofs.YtgipepjpkmlmaaaW.PrintLast Go.Proofs.YtgipepjpkmlmaaaW.PrintMore
set_option linter.unusedVariables false
set_option linter.unusedSimpArgs false
/-- What Feed leaves: the state, what is over, the error. -/
def feedP (g : S23) (s : S28) (r : S50) : S28 × List S46 × Int :=
  if (checkP g s && ([r.f0, r.f1].all inB && !decide (r.f0 > 1048576))) = true then
    if s.f3 = 1099511627776 then (z28, [], 6)
    else if (valP r.f2).2 = true then
      let st := keepI g s.f0 (startsP g r.f1)
      let l1 := takeN r.f0 (valP r.f2).1 st s.f4
      let drop := decide (st.length = 0) || !decide (l1.length ≤ 64)
      let l2 := if drop = true then s.f4 else l1
      let m := mx s.f0 r.f1
      (⟨m, if drop = true then wrap64 (s.f1 + 1) else s.f1, s.f2, wrap64 (s.f3 + 1), l2.filter (fun c => !closedP g c.f1 m)⟩, l2.filter (fun c => closedP g c.f1 m), 0)
    else (⟨s.f0, s.f1, wrap64 (s.f2 + 1), wrap64 (s.f3 + 1), s.f4⟩, [], 0)
  else (z28, [], 1)
end Go.Proofs.Ytgipepjpkmlmaaa.P
namespace Go.Proofs.Ytgipepjpkmlmaaa.P
open Go.RowKit Go.Proofs.YtgipepjpkmlmaaaW.PrintWords Go.Proofs.YtgipepjpkmlmaaaW.PrintLast Go.Proofs.YtgipepjpkmlmaaaW.PrintMore
set_option linter.unusedVariables false
set_option linter.unusedSimpArgs false
/-- Records, one behind the other. -/
def runL (g : S23) : List S50 → S28 → List S46 → S28 × List S46 × Int
  | [], s, all => (s, all, 0)
  | r :: rs, s, all => if (feedP g s r).2.2 = 0 then runL g rs (feedP g s r).1 (all ++ (feedP g s r).2.1) else (z28, [], (feedP g s r).2.2)
def runP (g : S23) (s : S28) (l : List S50) : S28 × List S46 × Int := if checkP g s = true then runL g l s [] else (z28, [], 1)
theorem feedP_len {g : S23} {s : S28} {r : S50} (h : s.f4.length ≤ 1000) : (feedP g s r).1.f4.length ≤ 1000 ∧ (feedP g s r).2.1.length ≤ 1000 := by
  unfold feedP
  split
  · split
    · simp [z28]
    · split
      · simp only []
        split
        · exact ⟨Nat.le_trans (List.length_filter_le _ _) h, Nat.le_trans (List.length_filter_le _ _) h⟩
        · rename_i hd
          simp at hd
          exact ⟨Nat.le_trans (List.length_filter_le _ _) (by omega), Nat.le_trans (List.length_filter_le _ _) (by omega)⟩
      · exact ⟨h, by simp⟩
  · simp [z28]
/-- Run's boxes. -/
structure RunW (w wc : World) (g : S23) (s : S28) (v4 : Value) : Prop where
  gg : wc.heap[w.heap.size]? = some (.cells #[.int .i64 g.f0, .int .i64 g.f1, .int .i64 g.f2] 23 (0, 0))
  gs : wc.heap[w.heap.size + 1]? = some (.cells #[.int .i64 s.f0, .int .i64 s.f1, .int .i64 s.f2, .int .i64 s.f3, v4] 28 (0, 0))
  ge : wc.heap[w.heap.size + 2]? = some (.cells #[.int .i64 0, .int .i64 0, .int .i64 0, .int .i64 0, .slice none 0 0] 28 (0, 0))
  bl : Below w.heap.size w wc
  row : Kd.R k46 46 wc w.heap.size (fun k => w.heap.size + 3 ≤ k) v4 s.f4
theorem RunW.below {w wc w' : World} {g : S23} {s : S28} {v4 : Value} (h : RunW w wc g s v4) (hb : Below wc.heap.size wc w') : RunW w w' g s v4 :=
  ⟨blk_below h.gg hb, blk_below h.gs hb, blk_below h.ge hb, h.bl.trans (hb.mono h.bl.size), Kd.R_below h.row hb⟩
theorem RunW.size {w wc : World} {g : S23} {s : S28} {v4 : Value} (h : RunW w wc g s v4) : w.heap.size + 3 ≤ wc.heap.size := by
  have := lt_of_block h.ge
  omega
/-- The state, taken over. -/
theorem RunW.take {w wc : World} {g : S23} {s t : S28} {v4 v5 : Value} (h : RunW w wc g s v4) (hR : Kd.R k46 46 wc w.heap.size (fun k => w.heap.size + 3 ≤ k) v5 t.f4) :
    RunW w (put5 wc (w.heap.size + 1) (.int .i64 t.f0) (.int .i64 t.f1) (.int .i64 t.f2) (.int .i64 t.f3) v5) g t v5 :=
  ⟨(put5_other (by omega) _ _ _ _ _).trans h.gg, put5_heap h.gs _ _ _ _ _, (put5_other (by omega) _ _ _ _ _).trans h.ge, put5_below h.bl (by omega) _ _ _ _ _, R_other hR (fun k hk => put5_other (by omega) _ _ _ _ _)⟩
end Go.Proofs.Ytgipepjpkmlmaaa.P
namespace Go.Proofs.Ytgipepjpkmlmaaa.P
open Go.RowKit Go.Proofs.YtgipepjpkmlmaaaW.PrintWords Go.Proofs.YtgipepjpkmlmaaaW.PrintLast Go.Proofs.YtgipepjpkmlmaaaW.PrintMore
set_option linter.unusedVariables false
set_option linter.unusedSimpArgs false
def awG : S23 := ⟨10, 10, 0⟩
def awL : List S50 := [⟨1, 3, ⟨#[10]⟩⟩, ⟨1, 12, ⟨#[14]⟩⟩, ⟨1, 4, ⟨#[18]⟩⟩]
def awZ : S28 := ⟨-1, 0, 0, 0, []⟩
end Go.Proofs.Ytgipepjpkmlmaaa.P
namespace Go.Proofs.Ytgipepjpkmlmaaa.P
open Go.RowKit Go.Proofs.YtgipepjpkmlmaaaW.PrintWords Go.Proofs.YtgipepjpkmlmaaaW.PrintLast Go.Proofs.YtgipepjpkmlmaaaW.PrintMore
set_option linter.unusedVariables false
set_option linter.unusedSimpArgs false
/-- Records in a block of their own. -/
theorem recs_C {w : World} {g : Nat} (l : List S50) (hl : l.length ≤ 1000000) (h : w.heap[g]? = some (.cells (l.flatMap (fun r => [Value.int .i64 r.f0, .int .i64 r.f1, .string r.f2])).toArray 50 (0, 0))) : k50.C w (some ⟨g, 0, none⟩) l.length l := by
  refine ⟨rfl, by omega, fun _ => ⟨_, rfl, fun j p hj => ⟨[.int .i64 p.f0, .int .i64 p.f1, .string p.f2], rfl, k50_mk w p, fun i u hu => ?_⟩⟩⟩
  have hi : i < 3 := (List.getElem?_eq_some_iff.1 hu).1
  have e : ((⟨g, 0, none⟩ : Addr).add (j * k50.sz + i)) = ⟨g, j * 3 + i, none⟩ := by
    show (⟨g, 0, none⟩ : Addr).add (j * 3 + i) = _
    unfold Addr.add
    simp
    omega
  rw [e, blk_cell h, List.getElem?_toArray]
  have key : ∀ (l : List S50) (j : Nat), l[j]? = some p → (l.flatMap (fun r => [Value.int .i64 r.f0, .int .i64 r.f1, .string r.f2]))[j * 3 + i]? = [Value.int .i64 p.f0, .int .i64 p.f1, .string p.f2][i]? := by
    intro l
    induction l with
    | nil => intro j hj; simp at hj
    | cons x l ih =>
      intro j hj
      cases j with
      | zero =>
        have : x = p := by simpa using hj
        subst this
        rw [List.flatMap_cons, Nat.zero_mul, Nat.zero_add, List.getElem?_append_left (by simpa using hi)]
      | succ j =>
        rw [List.flatMap_cons, List.getElem?_append_right (by simp; omega)]
        rw [show (j + 1) * 3 + i - [Value.int .i64 x.f0, .int .i64 x.f1, .string x.f2].length = j * 3 + i by simp; omega]
        exact ih j (by simpa using hj)
  rw [key l j hj]
  exact hu
section
variable {P : Program} {ops : Array Oper} {Q : Exit → Act → World → Prop} {md : Region.Mode} {S : World → Prop}
theorem doD2 {i j : Nat} {o o2 : Oper} {fuel : Nat} {listed l2 l3 : Array Bool} {a : Act} {w : World} (hr : Region.ready md ops listed = [i, j]) (hi : ops.toList[i]? = some o) (hj : ops.toList[j]? = some o2) (hl : listed.setIfInBounds i true = l2) (hl3 : listed.setIfInBounds j true = l3)
    (hw : Region.wanted o (yielded ops a.tmps) = true) (hw2 : Region.wanted o2 (yielded ops a.tmps) = true)
    (h : ∀ K' : Act → World → Prop, Shut (∀ a w, S w → (S w → wpAnyH P md ops Q S fuel l2 a w) → K' a w) → Oper.wp P o a w K' Q)
    (h2 : ∀ K' : Act → World → Prop, Shut (∀ a w, S w → (S w → wpAnyH P md ops Q S fuel l3 a w) → K' a w) → Oper.wp P o2 a w K' Q) : wpAnyH P md ops Q S (fuel + 1) listed a w := by
  subst hl hl3
  refine wpAnyH_ready hr (by simp) (AllReadyH.cons (by rw [← hi, Array.getElem?_toList]) (fun K hK => ?_) (AllReadyH.cons (by rw [← hj, Array.getElem?_toList]) (fun K hK => ?_) AllReadyH.nil))
  · rw [if_pos hw]; exact h K hK
  · rw [if_pos hw2]; exact h2 K hK
end
theorem put5_belowZ {B g : Nat} {w0 w : World} {b0 b1 b2 b3 b4 : Value} (h : Below B w0 w) (hz : w.heap[g]? = some (.cells #[b0, b1, b2, b3, b4] 28 (0, 0))) (hg : B ≤ g) (a0 a1 a2 a3 a4 : Value) : Below B w0 (put5 w g a0 a1 a2 a3 a4) := put5_below h hg _ _ _ _ _
theorem put5_otherZ {w : World} {g k : Nat} {b0 b1 b2 b3 b4 : Value} (hz : w.heap[g]? = some (.cells #[b0, b1, b2, b3, b4] 28 (0, 0))) (h : k ≠ g) (a0 a1 a2 a3 a4 : Value) : (put5 w g a0 a1 a2 a3 a4).heap[k]? = w.heap[k]? := put5_other h _ _ _ _ _
/-- What awake holds behind its Run. -/
structure AwW (w wc : World) (v2 v3 v4 : Value) : Prop where
  e0 : v4 = .int .i64 0
  box : ∃ gb A c, v2 = .pointer (some ⟨gb, 0, none⟩) ∧ wc.heap[gb]? = some (.cells #[.int .i64 12, .int .i64 1, .int .i64 0, .int .i64 3, .slice A 1 c] 28 (0, 0))
  row : ∃ A c, v3 = .slice A 1 c ∧ k46.C wc A 1 (runP awG awZ awL).2.1
  bl : Below w.heap.size w wc
end Go.Proofs.Ytgipepjpkmlmaaa.P
namespace Go.Proofs.Ytgipepjpkmlmaaa.P
set_option linter.unusedVariables false
set_option linter.unusedSimpArgs false
section
open Go.RowKit Go.Proofs.YtgipepjpkmlmaaaW.PrintWords Go.Proofs.YtgipepjpkmlmaaaW.PrintLast Go.Proofs.YtgipepjpkmlmaaaW.PrintMore
/-- One window stands ahead of another one. -/
def ltC (x y : S46) : Prop := x.f1 < y.f1 ∨ (x.f1 = y.f1 ∧ x.f0 < y.f0)
theorem ltC_trans {x y z : S46} (h : ltC x y) (k : ltC y z) : ltC x z := by unfold ltC at *; omega
theorem ordP_lt (x y : S46) : ordP x y < 0 ↔ ltC x y := by
  unfold ordP cmpP ltC
  split <;> split <;> (try split) <;> (try split) <;> omega
theorem ordP_eq (x y : S46) : ordP x y = 0 ↔ x.f1 = y.f1 ∧ x.f0 = y.f0 := by
  unfold ordP cmpP
  split <;> split <;> (try split) <;> (try split) <;> omega
/-- Rows of windows in order. -/
def srt (l : List S46) : Prop := ∀ i j : Nat, i < j → j < l.length → ltC (rd_T46 l (i : Int)) (rd_T46 l (j : Int))
theorem bsL_spec (l : List S46) (t : S46) (hs : srt l) : ∀ f i j, j - i < f → i ≤ j → j ≤ l.length → (∀ m, m < i → ltC (rd_T46 l (m : Int)) t) → (∀ m, j ≤ m → m < l.length → ¬ ltC (rd_T46 l (m : Int)) t) →
    (∀ m, m < bsL l t f i j → ltC (rd_T46 l (m : Int)) t) ∧ (∀ m, bsL l t f i j ≤ m → m < l.length → ¬ ltC (rd_T46 l (m : Int)) t) := by
  intro f
  induction f with
  | zero => intro i j h; omega
  | succ f ih =>
    intro i j hf hij hjl hlo hhi
    rw [bsL]
    by_cases c : i < j
    · rw [if_pos c]
      by_cases d : ordP (rd_T46 l (((i + j) / 2 : Nat) : Int)) t < 0
      · rw [if_pos d]
        have d2 := (ordP_lt _ _).1 d
        refine ih _ _ (by omega) (by omega) hjl (fun m hm => ?_) hhi
        by_cases e : m = (i + j) / 2
        · rw [e]; exact d2
        · exact ltC_trans (hs m ((i + j) / 2) (by omega) (by omega)) d2
      · rw [if_neg d]
        have d2 : ¬ ltC (rd_T46 l (((i + j) / 2 : Nat) : Int)) t := fun h => d ((ordP_lt _ _).2 h)
        refine ih _ _ (by omega) (by omega) (by omega) hlo (fun m hm hml h => ?_)
        by_cases e : m = (i + j) / 2
        · rw [e] at h; exact d2 h
        · exact d2 (ltC_trans (hs ((i + j) / 2) m (by omega) hml) h)
    · rw [if_neg c]
      exact ⟨hlo, fun m hm hml => hhi m (by omega) hml⟩
theorem bsI_spec (l : List S46) (t : S46) (hs : srt l) : (∀ m, m < bsI l t → ltC (rd_T46 l (m : Int)) t) ∧ (∀ m, bsI l t ≤ m → m < l.length → ¬ ltC (rd_T46 l (m : Int)) t) :=
  bsL_spec l t hs (l.length + 1) 0 l.length (by omega) (by omega) (by omega) (fun m h => by omega) (fun m h h2 => by omega)
theorem rd_get (l : List S46) (i : Nat) (h : i < l.length) : rd_T46 l (i : Int) = l[i] := rd46 l i h
/-- The key and the beginning of a window. -/
def keyC (c : S46) : Int × Int := (c.f0, c.f1)
theorem ltC_key {x y x2 y2 : S46} (h : ltC x y) (e1 : keyC x2 = keyC x) (e2 : keyC y2 = keyC y) : ltC x2 y2 := by
  unfold keyC at e1 e2
  injection e1 with a b
  injection e2 with c d
  unfold ltC at *
  omega
theorem srt_iff (l : List S46) : srt l ↔ l.Pairwise ltC := by
  rw [List.pairwise_iff_getElem]
  constructor
  · intro h i j hi hj hij
    have := h i j hij hj
    rwa [rd_get l i hi, rd_get l j hj] at this
  · intro h i j hij hj
    rw [rd_get l i (by omega), rd_get l j hj]
    exact h i j (by omega) hj hij
/-- One window's place in a row in order: it is found, or it may stand there. -/
theorem place (l : List S46) (x : S46) (hs : srt l) : (bsF l x = true → bsI l x < l.length ∧ keyC (rd_T46 l (bsI l x : Int)) = keyC x) ∧
    (bsF l x = false → (l.take (bsI l x) ++ x :: l.drop (bsI l x)).Pairwise ltC) := by
  obtain ⟨h1, h2⟩ := bsI_spec l x hs
  have hp := (srt_iff l).1 hs
  constructor
  · intro hf
    unfold bsF at hf
    simp only [Bool.and_eq_true, decide_eq_true_eq, beq_iff_eq] at hf
    obtain ⟨a, b⟩ := (ordP_eq _ _).1 hf.2
    exact ⟨hf.1, by unfold keyC; rw [a, b]⟩
  · intro hf
    have hlt : ∀ y ∈ l.take (bsI l x), ltC y x := by
      intro y hy
      obtain ⟨i, hi, rfl⟩ := List.getElem_of_mem hy
      rw [List.length_take] at hi
      have := h1 i (by omega)
      rw [rd_get l i (by omega)] at this
      rw [List.getElem_take]
      exact this
    have hgt : ∀ y ∈ l.drop (bsI l x), ltC x y := by
      intro y hy
      obtain ⟨i, hi, rfl⟩ := List.getElem_of_mem hy
      rw [List.length_drop] at hi
      rw [List.getElem_drop]
      have hR : bsI l x < l.length := by omega
      have hne : ¬ ordP (rd_T46 l (bsI l x : Int)) x = 0 := by
        intro e
        unfold bsF at hf
        rw [decide_eq_true hR, e] at hf
        cases hf
      have hge := h2 (bsI l x) (Nat.le_refl _) hR
      rw [← ordP_lt] at hge
      have hx : ltC x (rd_T46 l (bsI l x : Int)) := by
        have q1 : ¬ ltC (rd_T46 l (bsI l x : Int)) x := fun h => hge ((ordP_lt _ _).2 h)
        have q2 : ¬ ((rd_T46 l (bsI l x : Int)).f1 = x.f1 ∧ (rd_T46 l (bsI l x : Int)).f0 = x.f0) := fun h => hne ((ordP_eq _ _).2 h)
        unfold ltC at *
        omega
      by_cases e : i = 0
      · subst e
        rw [rd_get l _ hR] at hx
        exact hx
      · have := hs (bsI l x) (bsI l x + i) (by omega) (by omega)
        rw [rd_get l (bsI l x + i) (by omega)] at this
        exact ltC_trans hx this
    rw [List.pairwise_append]
    refine ⟨hp.sublist (List.take_sublist _ _), List.pairwise_cons.2 ⟨hgt, hp.sublist (List.drop_sublist _ _)⟩, fun a ha b hb => ?_⟩
    rcases List.mem_cons.1 hb with rfl | hb
    · exact hlt a ha
    · exact ltC_trans (hlt a ha) (hgt b hb)
theorem pair_set {l : List S46} (h : l.Pairwise ltC) (i : Nat) (hi : i < l.length) (y : S46) (hk : keyC y = keyC l[i]) : (l.set i y).Pairwise ltC := by
  rw [List.pairwise_iff_getElem] at h ⊢
  intro a b ha hb hab
  rw [List.length_set] at ha hb
  have := h a b ha hb hab
  refine ltC_key this ?_ ?_
  · rw [List.getElem_set]
    split
    · rename_i e; subst e; exact hk
    · rfl
  · rw [List.getElem_set]
    split
    · rename_i e; subst e; exact hk
    · rfl
/-- A number folded into a row in order leaves a row in order. -/
theorem takeS_srt (key v t : Int) (l : List S46) (hs : srt l) : srt (takeS key v t l) := by
  rw [srt_iff]
  obtain ⟨p1, p2⟩ := place l ⟨key, t, z44⟩ hs
  unfold takeS
  simp only []
  cases hF : bsF l ⟨key, t, z44⟩ with
  | true =>
    simp only [if_true]
    obtain ⟨q1, q2⟩ := p1 hF
    refine pair_set ((srt_iff l).1 hs) _ q1 _ ?_
    rw [rd_get l _ q1]
    rfl
  | false =>
    simp only [Bool.false_eq_true, if_false]
    have hp := p2 hF
    have hl : bsI l ⟨key, t, z44⟩ < (l.take (bsI l ⟨key, t, z44⟩) ++ (⟨key, t, z44⟩ : S46) :: l.drop (bsI l ⟨key, t, z44⟩)).length := by
      have := bsI_le l ⟨key, t, z44⟩
      simp
      omega
    refine pair_set hp _ hl _ ?_
    rw [rd_get _ _ hl]
    rfl
theorem takeN_srt (key v : Int) (ts : List Int) (l : List S46) (hs : srt l) : srt (takeN key v ts l) := by
  unfold takeN
  induction ts generalizing l with
  | nil => exact hs
  | cons t ts ih => exact ih _ (takeS_srt key v t l hs)
theorem filter_srt (p : S46 → Bool) (l : List S46) (hs : srt l) : srt (l.filter p) := by
  rw [srt_iff] at *
  exact hs.sublist List.filter_sublist
end
section
open Go.RowKit Go.Proofs.YtgipepjpkmlmaaaW.PrintWords Go.Proofs.YtgipepjpkmlmaaaW.PrintLast Go.Proofs.YtgipepjpkmlmaaaW.PrintMore
theorem plus_small (a b : Int) (h1 : -1000000000000 ≤ a) (h2 : a ≤ 1000000000000) (h3 : -1 ≤ b) (h4 : b ≤ 1) : plusP a b = a + b := by
  have hw : wrap64 (a + b) = a + b := by unfold wrap64; omega
  unfold plusP
  rw [hw]
  split
  · omega
  · split
    · omega
    · rfl
/-- What numbers come to, if they are not too many. -/
structure aggW (a : S44) : Prop where
  c0 : 0 ≤ a.f0
  c1 : a.f0 ≤ 1000000000
  h0 : 0 ≤ a.f4.f0
  h1 : 0 ≤ a.f4.f1
  h2 : 0 ≤ a.f4.f2
  h3 : 0 ≤ a.f4.f3
  sum : a.f4.f0 + a.f4.f1 + a.f4.f2 + a.f4.f3 = a.f0
  pp : a.f5 + a.f6 ≤ a.f0
  pm : a.f5 - a.f6 ≤ a.f0
  mp : -a.f5 + a.f6 ≤ a.f0
  mm : -a.f5 - a.f6 ≤ a.f0
  lo : a.f0 = 0 ∨ a.f2 ≤ a.f3
theorem aggW_zero : aggW z44 := by constructor <;> simp [z44, z42]
theorem aggW_add {a : S44} (h : aggW a) (hc : a.f0 < 1000000000) (v : Int) : aggW (addP a v) ∧ (addP a v).f0 = a.f0 + 1 := by
  obtain ⟨c0, c1, h0, h1, h2, h3, sum, pp, pm, mp, mm, lo⟩ := h
  have hq : (v % 4).toNat = 0 ∨ (v % 4).toNat = 1 ∨ (v % 4).toNat = 2 ∨ (v % 4).toNat = 3 := by omega
  have hk : sortN v = 0 ∨ sortN v = 1 ∨ sortN v = 2 ∨ sortN v = 3 := by unfold sortN; split <;> (try split) <;> (try split) <;> simp
  have p0 : plusP a.f0 1 = a.f0 + 1 := plus_small _ _ (by omega) (by omega) (by omega) (by omega)
  have hm : mn (if a.f0 = 0 then v else a.f2) v ≤ mx (if a.f0 = 0 then v else a.f3) v := by
    unfold mn mx
    (repeat' split) <;> omega
  have hh : ∀ x : Int, 0 ≤ x → x ≤ 1000000000 → plusP x 1 = x + 1 := fun x a b => plus_small x 1 (by omega) (by omega) (by omega) (by omega)
  have hr : ∀ x : Int, -1000000000 ≤ x → x ≤ 1000000000 → plusP x 1 = x + 1 ∧ plusP x 0 = x ∧ plusP x (-1) = x - 1 := fun x a b =>
    ⟨plus_small x 1 (by omega) (by omega) (by omega) (by omega), by rw [plus_small x 0 (by omega) (by omega) (by omega) (by omega)]; omega, by rw [plus_small x (-1) (by omega) (by omega) (by omega) (by omega)]; omega⟩
  obtain ⟨r1, r2, r3⟩ := hr a.f5 (by omega) (by omega)
  obtain ⟨i1, i2, i3⟩ := hr a.f6 (by omega) (by omega)
  have e0 := hh a.f4.f0 h0 (by omega)
  have e1 := hh a.f4.f1 h1 (by omega)
  have e2 := hh a.f4.f2 h2 (by omega)
  have e3 := hh a.f4.f3 h3 (by omega)
  unfold addP
  rcases hk with k | k | k | k <;> rcases hq with q | q | q | q <;> rw [k, q] <;> simp only [setH, hist, reQ, imQ, p0, r1, r2, r3, i1, i2, i3, e0, e1, e2, e3] <;>
    refine ⟨⟨?_, ?_, ?_, ?_, ?_, ?_, ?_, ?_, ?_, ?_, ?_, .inr hm⟩, ?_⟩ <;> simp only [] <;> omega
theorem far_small (n c : Int) (h1 : -1000000000 ≤ n) (h2 : n ≤ 1000000000) (h3 : 0 ≤ c) (h4 : c ≤ 1000000000) (h5 : -c ≤ n) (h6 : n ≤ c) : farC n c = (mx n (-n), true) := by
  have hw : wrap64 (-c) = -c := by unfold wrap64; omega
  have hn : wrap64 (-n) = -n := by unfold wrap64; omega
  unfold farC
  rw [hw, hn, if_neg (by omega)]
theorem aggOk_of {a : S44} (h : aggW a) (hc : 1 ≤ a.f0) : aggOk a = true := by
  obtain ⟨c0, c1, h0, h1, h2, h3, sum, pp, pm, mp, mm, lo⟩ := h
  have w1 : wrap64 (a.f0 - a.f4.f0) = a.f0 - a.f4.f0 := by unfold wrap64; omega
  have w2 : wrap64 (a.f0 - a.f4.f0 - a.f4.f1) = a.f0 - a.f4.f0 - a.f4.f1 := by unfold wrap64; omega
  have w3 : wrap64 (a.f0 - a.f4.f0 - a.f4.f1 - a.f4.f2) = a.f0 - a.f4.f0 - a.f4.f1 - a.f4.f2 := by unfold wrap64; omega
  have w4 : wrap64 (a.f0 - a.f4.f0 - a.f4.f1 - a.f4.f2 - a.f4.f3) = 0 := by unfold wrap64; omega
  have s4 : aggSt a 4 = (true, 0) := by
    simp only [aggSt, hist, w1, w2, w3, w4]
    simp
    omega
  have m5 : mx a.f5 (-a.f5) = a.f5 ∨ mx a.f5 (-a.f5) = -a.f5 := by unfold mx; split <;> simp
  have m6 : mx a.f6 (-a.f6) = a.f6 ∨ mx a.f6 (-a.f6) = -a.f6 := by unfold mx; split <;> simp
  unfold aggOk
  rw [s4, far_small a.f5 a.f0 (by omega) (by omega) c0 c1 (by omega) (by omega), far_small a.f6 a.f0 (by omega) (by omega) c0 c1 (by omega) (by omega)]
  have hw : wrap64 (mx a.f5 (-a.f5) + mx a.f6 (-a.f6)) = mx a.f5 (-a.f5) + mx a.f6 (-a.f6) := by unfold wrap64; omega
  simp only [hw]
  simp
  rcases m5 with e | e <;> rcases m6 with f | f <;> rw [e, f] <;> omega
end
section
open Go.RowKit Go.Proofs.YtgipepjpkmlmaaaW.PrintWords Go.Proofs.YtgipepjpkmlmaaaW.PrintLast Go.Proofs.YtgipepjpkmlmaaaW.PrintMore
/-- What a window must be. -/
structure WinOk (g : S23) (m n : Int) (c : S46) : Prop where
  k0 : 0 ≤ c.f0
  k1 : c.f0 ≤ 1048576
  s0 : 0 ≤ c.f1
  s1 : c.f1 ≤ 1099511627776
  hop : Int.tmod c.f1 g.f1 = 0
  le : c.f1 ≤ m
  agg : aggW c.f2
  one : 1 ≤ c.f2.f0
  cnt : c.f2.f0 ≤ n
/-- What a state must be that comes of records from nothing on. -/
structure Inv (g : S23) (s : S28) : Prop where
  grid : chkG g = true
  n0 : 0 ≤ s.f3
  n1 : s.f3 ≤ 1000000
  late : 0 ≤ s.f1
  bad : 0 ≤ s.f2
  lb : s.f1 + s.f2 ≤ s.f3
  mark : s.f0 = -1 ∨ (0 ≤ s.f0 ∧ s.f0 ≤ 1099511627776)
  len : s.f4.length ≤ 64
  ord : srt s.f4
  each : ∀ c ∈ s.f4, WinOk g s.f0 (8 * s.f3) c
  op : ∀ c ∈ s.f4, closedP g c.f1 s.f0 = false
theorem inB_of {n : Int} (h0 : 0 ≤ n) (h1 : n ≤ 1099511627776) : inB n = true := by
  unfold inB
  rw [decide_eq_true h0, decide_eq_true h1]
  rfl
theorem chkL_true (g : S23) (s : S28) : ∀ k i, (∀ j, i ≤ j → j < i + k → okAt g s j = true) → chkL g s k i true = true
  | 0, i, h => rfl
  | k + 1, i, h => by
    rw [chkL, if_pos rfl, h i (by omega) (by omega)]
    exact chkL_true g s k (i + 1) (fun j a b => h j (by omega) (by omega))
theorem inv_check {g : S23} {s : S28} (h : Inv g s) : checkP g s = true := by
  have hp : preOk g s = true := by
    unfold preOk
    have hw : wrap64 (s.f3 - s.f2) = s.f3 - s.f2 := by have := h.n0; have := h.n1; have := h.bad; have := h.lb; have := h.late; unfold wrap64; omega
    rw [h.grid, hw]
    have h1 : inB s.f1 = true := inB_of h.late (by have := h.lb; have := h.n1; have := h.bad; omega)
    have h2 : inB s.f2 = true := inB_of h.bad (by have := h.lb; have := h.n1; have := h.late; omega)
    have h3 : inB s.f3 = true := inB_of h.n0 (by have := h.n1; omega)
    have h4 : decide (s.f1 ≤ s.f3 - s.f2) = true := decide_eq_true (by have := h.lb; omega)
    have h5 : decide (s.f4.length ≤ 64) = true := decide_eq_true h.len
    have h6 : (s.f0 == -1 || inB s.f0) = true := by
      rcases h.mark with e | ⟨a, b⟩
      · rw [e]; rfl
      · rw [inB_of a b]; simp
    rw [h4, h5, h6]
    simp [h1, h2, h3]
  unfold checkP
  rw [hp]
  refine chkL_true g s _ 0 (fun j _ hj => ?_)
  have hj2 : j < s.f4.length := by omega
  have hm : rd_T46 s.f4 (j : Int) ∈ s.f4 := by rw [rd_get _ _ hj2]; exact List.getElem_mem hj2
  have hw := h.each _ hm
  unfold okAt
  simp only []
  have a1 := inB_of hw.k0 (by have := hw.k1; omega)
  have a2 := inB_of hw.s0 hw.s1
  have a3 : decide ((rd_T46 s.f4 (j : Int)).f0 ≤ 1048576) = true := decide_eq_true hw.k1
  have a4 : decide (Int.tmod (rd_T46 s.f4 (j : Int)).f1 g.f1 = 0) = true := decide_eq_true hw.hop
  have a5 : decide ((rd_T46 s.f4 (j : Int)).f1 ≤ s.f0) = true := decide_eq_true hw.le
  have a6 := aggOk_of hw.agg hw.one
  have a7 : ((j : Int) == 0 || decide (ordP (rd_T46 s.f4 ((j : Int) - 1)) (rd_T46 s.f4 (j : Int)) < 0)) = true := by
    by_cases e : j = 0
    · subst e; rfl
    · have := h.ord (j - 1) j (by omega) hj2
      rw [show ((j - 1 : Nat) : Int) = (j : Int) - 1 by omega] at this
      rw [decide_eq_true ((ordP_lt _ _).2 this)]
      simp
  rw [a3, a4, a5, h.op _ hm, a6, a7]
  simp [a1, a2]
theorem inv_zero {g : S23} (h : chkG g = true) : Inv g awZ := by
  refine ⟨h, by decide, by decide, by decide, by decide, by decide, .inl rfl, by decide, ?_, ?_, ?_⟩
  · intro i j _ hj; simp [awZ] at hj
  · intro c hc; simp [awZ] at hc
  · intro c hc; simp [awZ] at hc
end
section
open Go.RowKit Go.Proofs.YtgipepjpkmlmaaaW.PrintWords Go.Proofs.YtgipepjpkmlmaaaW.PrintLast Go.Proofs.YtgipepjpkmlmaaaW.PrintMore
theorem startL_mem (g : S23) (t : Int) : ∀ (k : Nat) (i a : Int), a ∈ startL g t k i → ∃ j : Int, i ≤ j ∧ j < i + k ∧ a = stAt g t j ∧ 0 ≤ a
  | 0, i, a, h => by simp [startL] at h
  | k + 1, i, a, h => by
    unfold startL at h
    split at h
    · rcases List.mem_cons.1 h with rfl | h
      · exact ⟨i, by omega, by omega, rfl, by omega⟩
      · obtain ⟨j, a1, a2, a3⟩ := startL_mem g t k (i + 1) a h
        exact ⟨j, by omega, by omega, a3⟩
    · obtain ⟨j, a1, a2, a3⟩ := startL_mem g t k (i + 1) a h
      exact ⟨j, by omega, by omega, a3⟩
/-- A moment's beginnings are beginnings, and not behind it. -/
theorem startsP_mem (g : S23) (t : Int) (hg : chkG g = true) (h0 : 0 ≤ t) (h1 : t ≤ 1099511627776) (a : Int) (ha : a ∈ startsP g t) : 0 ≤ a ∧ a ≤ t ∧ Int.tmod a g.f1 = 0 := by
  obtain ⟨g0, g1, g2, g3, g4, g5, g6, g7⟩ := chkG_spec hg
  obtain ⟨j, j0, j1, e, ea⟩ := startL_mem g t _ 0 a ha
  have e1 : Int.tdiv g.f0 g.f1 = g.f0 / g.f1 := Int.tdiv_eq_ediv_of_nonneg (by omega)
  have e2 : Int.tmod g.f0 g.f1 = g.f0 % g.f1 := Int.tmod_eq_emod_of_nonneg (by omega)
  have e3 : Int.tmod t g.f1 = t % g.f1 := Int.tmod_eq_emod_of_nonneg h0
  rw [e2] at g4
  have q0 : 0 ≤ g.f0 / g.f1 := Int.ediv_nonneg (by omega) (by omega)
  have qle : g.f0 / g.f1 ≤ g.f0 := Int.ediv_le_self _ (by omega)
  have hn : wrap64 (Int.tdiv g.f0 g.f1) = g.f0 / g.f1 := by rw [e1]; unfold wrap64; omega
  rw [hn] at j1
  have hd : g.f1 * (g.f0 / g.f1) + g.f0 % g.f1 = g.f0 := Int.mul_ediv_add_emod _ _
  have ht : g.f1 * (t / g.f1) + t % g.f1 = t := Int.mul_ediv_add_emod _ _
  have tm0 : 0 ≤ t % g.f1 := Int.emod_nonneg _ (by omega)
  have tm1 : t % g.f1 < g.f1 := Int.emod_lt_of_pos _ (by omega)
  have hj : j + 1 ≤ g.f0 / g.f1 := by omega
  have hmul : g.f1 * (j + 1) ≤ g.f1 * (g.f0 / g.f1) := Int.mul_le_mul_of_nonneg_left hj (by omega)
  have hmul0 : 0 ≤ g.f1 * (j + 1) := Int.mul_nonneg (by omega) (by omega)
  have hst : a = t - t % g.f1 - g.f0 + g.f1 * (j + 1) := by
    rw [e]
    unfold stAt
    rw [e3]
    have w0 : wrap64 (j + 1) = j + 1 := by unfold wrap64; omega
    rw [w0]
    have w1 : wrap64 (g.f1 * (j + 1)) = g.f1 * (j + 1) := by unfold wrap64; omega
    rw [w1]
    have w2 : wrap64 (t - t % g.f1) = t - t % g.f1 := by unfold wrap64; omega
    rw [w2]
    have w3 : wrap64 (t - t % g.f1 - g.f0) = t - t % g.f1 - g.f0 := by unfold wrap64; omega
    rw [w3]
    unfold wrap64
    omega
  refine ⟨ea, by omega, ?_⟩
  have hx : a = g.f1 * (t / g.f1 - g.f0 / g.f1 + (j + 1)) := by
    rw [Int.mul_add, Int.mul_sub]
    omega
  rw [hx]
  exact Int.mul_tmod_right _ _
/-- One start's part leaves windows as they must be. -/
theorem takeS_each (g : S23) (m n key v t : Int) (l : List S46) (hs : srt l) (hl : ∀ c ∈ l, WinOk g m n c) (k0 : 0 ≤ key) (k1 : key ≤ 1048576) (t0 : 0 ≤ t) (t1 : t ≤ 1099511627776) (th : Int.tmod t g.f1 = 0) (tm : t ≤ m) (hn0 : 0 ≤ n) (hn1 : n < 100000000) :
    ∀ c ∈ takeS key v t l, WinOk g m (n + 1) c := by
  have up : ∀ c ∈ l, WinOk g m (n + 1) c := fun c hc => by
    obtain ⟨a1, a2, a3, a4, a5, a6, a7, a8, a9⟩ := hl c hc
    exact ⟨a1, a2, a3, a4, a5, a6, a7, a8, by omega⟩
  obtain ⟨p1, p2⟩ := place l ⟨key, t, z44⟩ hs
  have hI := bsI_le l ⟨key, t, z44⟩
  intro c hc
  unfold takeS at hc
  simp only [] at hc
  cases hF : bsF l ⟨key, t, z44⟩ with
  | true =>
    rw [hF] at hc
    simp only [if_true] at hc
    obtain ⟨q1, q2⟩ := p1 hF
    rcases List.mem_or_eq_of_mem_set hc with h | h
    · exact up c h
    · have hy : rd_T46 l (bsI l ⟨key, t, z44⟩ : Int) ∈ l := by rw [rd_get _ _ q1]; exact List.getElem_mem q1
      obtain ⟨a1, a2, a3, a4, a5, a6, a7, a8, a9⟩ := hl _ hy
      have hadd := aggW_add a7 (by omega) v
      subst h
      exact ⟨a1, a2, a3, a4, a5, a6, hadd.1, by simp only []; rw [hadd.2]; omega, by simp only []; rw [hadd.2]; omega⟩
  | false =>
    rw [hF] at hc
    simp only [Bool.false_eq_true, if_false] at hc
    have hlen : (l.take (bsI l ⟨key, t, z44⟩)).length = bsI l ⟨key, t, z44⟩ := by rw [List.length_take]; omega
    have hrd : rd_T46 (l.take (bsI l ⟨key, t, z44⟩) ++ (⟨key, t, z44⟩ : S46) :: l.drop (bsI l ⟨key, t, z44⟩)) (bsI l ⟨key, t, z44⟩ : Int) = ⟨key, t, z44⟩ := by
      rw [rd_get _ _ (by simp; omega), List.getElem_append_right (by omega)]
      simp [hlen]
    rw [hrd, List.set_append_right _ _ (by omega), hlen, Nat.sub_self, List.set_cons_zero] at hc
    rcases List.mem_append.1 hc with h | h
    · exact up c (List.mem_of_mem_take h)
    · rcases List.mem_cons.1 h with h | h
      · have hadd := aggW_add aggW_zero (by decide) v
        have hz : z44.f0 = 0 := rfl
        subst h
        exact ⟨k0, k1, t0, t1, th, tm, hadd.1, by simp only []; rw [hadd.2, hz]; omega, by simp only []; rw [hadd.2, hz]; omega⟩
      · exact up c (List.mem_of_mem_drop h)
theorem takeN_each (g : S23) (m key v : Int) (k0 : 0 ≤ key) (k1 : key ≤ 1048576) : ∀ (ts : List Int) (n : Int) (l : List S46), srt l → (∀ c ∈ l, WinOk g m n c) → (∀ t ∈ ts, 0 ≤ t ∧ t ≤ 1099511627776 ∧ Int.tmod t g.f1 = 0 ∧ t ≤ m) → 0 ≤ n → n + ts.length < 100000000 →
    ∀ c ∈ takeN key v ts l, WinOk g m (n + ts.length) c
  | [], n, l, hs, hl, ht, hn0, hn1, c, hc => by
    have := hl c hc
    simpa using this
  | t :: ts, n, l, hs, hl, ht, hn0, hn1, c, hc => by
    obtain ⟨t0, t1, th, tm⟩ := ht t (by simp)
    have h1 := takeS_each g m n key v t l hs hl k0 k1 t0 t1 th tm hn0 (by simp at hn1; omega)
    have h2 := takeN_each g m key v k0 k1 ts (n + 1) (takeS key v t l) (takeS_srt key v t l hs) h1 (fun a ha => ht a (by simp [ha])) (by omega) (by simp at hn1; omega) c hc
    rw [List.length_cons, show n + ((ts.length + 1 : Nat) : Int) = n + 1 + (ts.length : Int) by omega]
    exact h2
/-- A record that is taken leaves a state that may be. -/
theorem inv_feed {g : S23} {s : S28} {r : S50} (h : Inv g s) (hn : s.f3 < 1000000) (he : (feedP g s r).2.2 = 0) : Inv g (feedP g s r).1 := by
  have hw : ∀ x : Int, 0 ≤ x → x ≤ 1000000 → wrap64 (x + 1) = x + 1 := fun x a b => by unfold wrap64; omega
  obtain ⟨hg, n0, n1, late, bad, lb, mark, len, ord, each, op⟩ := h
  unfold feedP at he ⊢
  split at he
  · rename_i c1
    rw [if_pos c1]
    simp only [Bool.and_eq_true, Bool.not_eq_true', decide_eq_false_iff_not] at c1
    obtain ⟨_, c2, c3⟩ := c1
    have hk : 0 ≤ r.f0 ∧ 0 ≤ r.f1 ∧ r.f1 ≤ 1099511627776 := by
      simp [inB] at c2
      omega
    split at he
    · cases he
    · rename_i c4
      rw [if_neg c4]
      by_cases c5 : (valP r.f2).2 = true
      · rw [if_pos c5]
        simp only []
        have hm : s.f0 ≤ mx s.f0 r.f1 ∧ r.f1 ≤ mx s.f0 r.f1 ∧ 0 ≤ mx s.f0 r.f1 ∧ mx s.f0 r.f1 ≤ 1099511627776 := by
          unfold mx
          split <;> omega
        have hst : ∀ t ∈ keepI g s.f0 (startsP g r.f1), 0 ≤ t ∧ t ≤ 1099511627776 ∧ Int.tmod t g.f1 = 0 ∧ t ≤ mx s.f0 r.f1 := by
          intro t ht
          obtain ⟨a, b, c⟩ := startsP_mem g r.f1 hg hk.2.1 hk.2.2 t (List.mem_filter.1 ht).1
          exact ⟨a, by omega, c, by omega⟩
        have hsl : (keepI g s.f0 (startsP g r.f1)).length ≤ 8 := Nat.le_trans (List.length_filter_le _ _) (startsP_length g r.f1 hg)
        have hold : ∀ c ∈ s.f4, WinOk g (mx s.f0 r.f1) (8 * s.f3) c := fun c hc => by
          obtain ⟨a1, a2, a3, a4, a5, a6, a7, a8, a9⟩ := each c hc
          exact ⟨a1, a2, a3, a4, a5, by omega, a7, a8, a9⟩
        have hnew := takeN_each g (mx s.f0 r.f1) r.f0 (valP r.f2).1 hk.1 (by omega) _ (8 * s.f3) s.f4 ord hold hst (by omega) (by omega)
        have h2 : ∀ (b : Bool) (l : List S46), (b = true → l = s.f4) → (b = false → l = takeN r.f0 (valP r.f2).1 (keepI g s.f0 (startsP g r.f1)) s.f4 ∧ l.length ≤ 64) →
            srt l ∧ l.length ≤ 64 ∧ ∀ c ∈ l, WinOk g (mx s.f0 r.f1) (8 * (s.f3 + 1)) c := by
          intro b l hb1 hb2
          cases b with
          | true =>
            rw [hb1 rfl]
            refine ⟨ord, len, fun c hc => ?_⟩
            obtain ⟨a1, a2, a3, a4, a5, a6, a7, a8, a9⟩ := hold c hc
            exact ⟨a1, a2, a3, a4, a5, a6, a7, a8, by omega⟩
          | false =>
            obtain ⟨e, hl⟩ := hb2 rfl
            refine ⟨by rw [e]; exact takeN_srt _ _ _ _ ord, hl, fun c hc => ?_⟩
            rw [e] at hc
            obtain ⟨a1, a2, a3, a4, a5, a6, a7, a8, a9⟩ := hnew c hc
            exact ⟨a1, a2, a3, a4, a5, a6, a7, a8, by omega⟩
        generalize hD : (decide ((keepI g s.f0 (startsP g r.f1)).length = 0) || !decide ((takeN r.f0 (valP r.f2).1 (keepI g s.f0 (startsP g r.f1)) s.f4).length ≤ 64)) = D
        obtain ⟨q1, q2, q3⟩ := h2 D (if D = true then s.f4 else takeN r.f0 (valP r.f2).1 (keepI g s.f0 (startsP g r.f1)) s.f4) (fun e => by rw [if_pos e]) (fun e => by
          rw [if_neg (by rw [e]; decide)]
          refine ⟨rfl, ?_⟩
          rw [e] at hD
          simp at hD
          exact hD.2)
        generalize (if D = true then s.f4 else takeN r.f0 (valP r.f2).1 (keepI g s.f0 (startsP g r.f1)) s.f4) = l2 at q1 q2 q3
        have hla : s.f1 ≤ (if D = true then wrap64 (s.f1 + 1) else s.f1) ∧ (if D = true then wrap64 (s.f1 + 1) else s.f1) ≤ s.f1 + 1 := by
          rw [hw _ late (by omega)]
          split <;> omega
        generalize (if D = true then wrap64 (s.f1 + 1) else s.f1) = la at hla
        rw [hw _ n0 (by omega)]
        refine ⟨hg, by simp only []; omega, by simp only []; omega, by simp only []; omega, bad, by simp only []; omega, .inr ⟨hm.2.2.1, hm.2.2.2⟩, Nat.le_trans (List.length_filter_le _ _) q2, filter_srt _ _ q1, fun c hc => q3 c (List.mem_filter.1 hc).1, fun c hc => ?_⟩
        have := (List.mem_filter.1 hc).2
        simpa using this
      · rw [if_neg c5]
        simp only []
        rw [hw _ bad (by omega), hw _ n0 (by omega)]
        refine ⟨hg, by simp only []; omega, by simp only []; omega, late, by simp only []; omega, by simp only []; omega, mark, len, ord, fun c hc => ?_, op⟩
        obtain ⟨a1, a2, a3, a4, a5, a6, a7, a8, a9⟩ := each c hc
        exact ⟨a1, a2, a3, a4, a5, a6, a7, a8, by simp only []; omega⟩
  · cases he
theorem feed_n {g : S23} {s : S28} {r : S50} (h : Inv g s) (h0 : (feedP g s r).2.2 = 0) : (feedP g s r).1.f3 ≤ s.f3 + 1 := by
  unfold feedP at h0 ⊢
  have hw : wrap64 (s.f3 + 1) = s.f3 + 1 := by have := h.n0; have := h.n1; unfold wrap64; omega
  split
  · split
    · simp [z28]; have := h.n0; omega
    · split
      · simp only []; omega
      · simp only []; omega
  · simp [z28]; have := h.n0; omega
end
section
open Go.RowKit Go.Proofs.YtgipepjpkmlmaaaW.PrintWords Go.Proofs.YtgipepjpkmlmaaaW.PrintLast Go.Proofs.YtgipepjpkmlmaaaW.PrintMore
/-- Two windows of another key or beginning. -/
def neK (a b : S46) : Prop := keyC a ≠ keyC b
/-- What has been told is closed, and what is told or open is of its own. -/
structure OnceI (g : S23) (s : S28) (all : List S46) : Prop where
  inv : Inv g s
  cl : ∀ c ∈ all, closedP g c.f1 s.f0 = true
  ne : (all ++ s.f4).Pairwise neK
end
section
open Go.RowKit Go.Proofs.YtgipepjpkmlmaaaW.PrintWords Go.Proofs.YtgipepjpkmlmaaaW.PrintLast Go.Proofs.YtgipepjpkmlmaaaW.PrintMore
theorem may_l0 (g : S23) (q : Int) (hq : q * g.f1 = g.f0) (h0 : 1 ≤ g.f0) (h1 : g.f0 ≤ 1048576) (f0 : 1 ≤ g.f1) (f1 : g.f1 ≤ 1048576) (hq8 : q ≤ 8) : ∀ (n : Nat) (k : Nat) (i : Int), 1 ≤ i → i ≤ q → (q - i).toNat = n → n < k → headgateref14_May.l0 k i g.f0 g.f1 g.f2 = some true := by
  intro n
  induction n with
  | zero =>
    intro k i hi hiq hn hk
    obtain ⟨k, rfl⟩ : ∃ j, k = j + 1 := ⟨k - 1, by omega⟩
    obtain rfl : i = q := by omega
    rw [headgateref14_May.l0, if_pos hq8, if_pos]
    rw [hq]
    unfold wrap64
    omega
  | succ n ih =>
    intro k i hi hiq hn hk
    obtain ⟨k, rfl⟩ : ∃ j, k = j + 1 := ⟨k - 1, by omega⟩
    rw [headgateref14_May.l0, if_pos (by omega)]
    split
    · rfl
    · rw [show wrap64 (i + 1) = i + 1 by unfold wrap64; omega]
      exact ih k (i + 1) (by omega) (by omega) (by omega) (by omega)
/-- Windows that may be may be by the reference, too. -/
theorem may_ref (g : S23) (hg : chkG g = true) : headgateref14_May.f 10 g.f0 g.f1 g.f2 = some true := by
  obtain ⟨g0, g1, g2, g3, g4, g5, g6, g7⟩ := chkG_spec hg
  have e1 : Int.tdiv g.f0 g.f1 = g.f0 / g.f1 := Int.tdiv_eq_ediv_of_nonneg (by omega)
  have e2 : Int.tmod g.f0 g.f1 = g.f0 % g.f1 := Int.tmod_eq_emod_of_nonneg (by omega)
  rw [e2] at g4
  have q0 : 1 ≤ g.f0 / g.f1 := (Int.le_ediv_iff_mul_le (by omega)).2 (by omega)
  have qle : g.f0 / g.f1 ≤ g.f0 := Int.ediv_le_self _ (by omega)
  have hn : wrap64 (Int.tdiv g.f0 g.f1) = g.f0 / g.f1 := by rw [e1]; unfold wrap64; omega
  rw [hn] at g5
  have hd : g.f1 * (g.f0 / g.f1) + g.f0 % g.f1 = g.f0 := Int.mul_ediv_add_emod _ _
  have hq : g.f0 / g.f1 * g.f1 = g.f0 := by rw [Int.mul_comm]; omega
  unfold headgateref14_May.f
  rw [if_neg (by omega), if_neg (by omega), if_neg (by omega), if_neg (by omega), if_neg (by omega), headgateref14_May.j0, decide_eq_false (by omega), if_neg (by decide)]
  exact may_l0 g (g.f0 / g.f1) hq g0 g1 g2 (by omega) g5 _ 9 1 (by omega) q0 rfl (by omega)
/-- Both say alike whether a window is closed. -/
theorem closed_ref (g : S23) (hg : chkG g = true) (a m : Int) (h0 : -1 ≤ m) (h1 : m ≤ 1099511627776) : headgateref14_Closed.f 10 g.f0 g.f1 g.f2 a m = some (closedP g a m) := by
  obtain ⟨g0, g1, g2, g3, g4, g5, g6, g7⟩ := chkG_spec hg
  unfold headgateref14_Closed.f
  rw [may_ref g hg, Option.bind_some, if_pos rfl]
  unfold closedP
  rw [hg]
  have w1 : wrap64 (wrap64 (m - g.f0) - g.f2) = m - g.f0 - g.f2 := by unfold wrap64; omega
  have w2 : wrap64 (m - wrap64 (g.f0 + g.f2)) = m - g.f0 - g.f2 := by unfold wrap64; omega
  rw [w1, w2]
  by_cases c : m ≥ 0
  · rw [if_pos c, decide_eq_true (show (0 : Int) ≤ m from c)]
    simp
  · rw [if_neg c, decide_eq_false (show ¬ (0 : Int) ≤ m from c)]
    simp
theorem closedRef_calls (g : S23) (hg : chkG g = true) (a m : Int) (h0 : -1 ≤ m) (h1 : m ≤ 1099511627776) (w : World) : Calls Try.prog 22 #[gridV g, .int .i64 a, .int .i64 m] w fun e w' => e = .returned (.bool (closedP g a m)) ∧ Below w.heap.size w w' :=
  headgateref14_Closed.calls 10 g.f0 g.f1 g.f2 a m (closedP g a m) w (closed_ref g hg a m h0 h1)
end
end Go.Proofs.Ytgipepjpkmlmaaa.P
namespace Go.Proofs.Ytgipepjpkmlmaaa.P
set_option linter.unusedVariables false
set_option linter.unusedSimpArgs false
section
open Go.RowKit Go.Proofs.YtgipepjpkmlmaaaW.PrintWords Go.Proofs.YtgipepjpkmlmaaaW.PrintLast Go.Proofs.YtgipepjpkmlmaaaW.PrintMore
theorem inR_calls (n : Int) (w : World) : Calls Try.prog 66 #[.int .i64 n] w fun e w' => e = .returned (.bool (inB n)) ∧ w' = w := by
  obtain ⟨b, hb⟩ : ∃ b, inB n = b := ⟨_, rfl⟩
  rw [hb]
  unfold inB at hb
  by_cases c1 : 0 ≤ n
  · have d1 : decide (0 ≤ n) = true := decide_eq_true c1
    rw [d1, Bool.true_and] at hb
    subst hb
    go_enter Try.func66, Try.ntmps66
    go_wp2
    go_ret
    exact ⟨rfl, rfl⟩
  · have d1 : decide (0 ≤ n) = false := decide_eq_false c1
    rw [d1, Bool.false_and] at hb
    subst hb
    go_enter Try.func66, Try.ntmps66
    go_wp2
    go_ret
    exact ⟨rfl, rfl⟩
/-- Does a window stand ahead of another one? -/
def aheadB (x y : S46) : Bool := decide (x.f1 < y.f1) || ((x.f1 == y.f1) && decide (x.f0 < y.f0))
theorem aheadB_iff (x y : S46) : aheadB x y = true ↔ ltC x y := by
  unfold aheadB ltC
  simp
theorem aheadR_calls (x y : S46) (w : World) : Calls Try.prog 64 #[cellV x, cellV y] w fun e w' => e = .returned (.bool (aheadB x y)) ∧ Below w.heap.size w w' := by
  obtain ⟨b, hb⟩ : ∃ b, aheadB x y = b := ⟨_, rfl⟩
  rw [hb]
  unfold aheadB at hb
  by_cases c1 : x.f1 < y.f1
  · have d1 : decide (x.f1 < y.f1) = true := decide_eq_true c1
    rw [d1, Bool.true_or] at hb
    subst hb
    go_enter Try.func64, Try.ntmps64
    go_wp2
    go_ret
    exact ⟨rfl, below_alloc (below_alloc (Below.refl _ _) _) _⟩
  · have d1 : decide (x.f1 < y.f1) = false := decide_eq_false c1
    rw [d1, Bool.false_or] at hb
    by_cases c2 : x.f1 = y.f1
    · have d2 : (x.f1 == y.f1) = true := beq_iff_eq.2 c2
      rw [d2, Bool.true_and] at hb
      clear c1 c2
      subst hb
      go_enter Try.func64, Try.ntmps64
      go_wp2
      go_ret
      exact ⟨rfl, below_alloc (below_alloc (Below.refl _ _) _) _⟩
    · have d2 : (x.f1 == y.f1) = false := beq_eq_false_iff_ne.2 c2
      rw [d2, Bool.false_and] at hb
      subst hb
      go_enter Try.func64, Try.ntmps64
      go_wp2
      go_ret
      exact ⟨rfl, below_alloc (below_alloc (Below.refl _ _) _) _⟩
theorem may_l0_no (g : S23) (h0 : 1 ≤ g.f0) (f0 : 1 ≤ g.f1) (f1 : g.f1 ≤ 1048576) : ∀ (n k : Nat) (i : Int), 1 ≤ i → (9 - i).toNat = n → i ≤ 9 → (∀ j : Int, i ≤ j → j ≤ 8 → j * g.f1 ≠ g.f0) → n < k → headgateref14_May.l0 k i g.f0 g.f1 g.f2 = some false := by
  intro n
  induction n with
  | zero =>
    intro k i hi hn h9 hj hk
    obtain ⟨k, rfl⟩ : ∃ j, k = j + 1 := ⟨k - 1, by omega⟩
    rw [headgateref14_May.l0, if_neg (by omega)]
  | succ n ih =>
    intro k i hi hn h9 hj hk
    obtain ⟨k, rfl⟩ : ∃ j, k = j + 1 := ⟨k - 1, by omega⟩
    have hm := Int.mul_le_mul_of_nonneg_right (show i ≤ 8 by omega) (show 0 ≤ g.f1 by omega)
    have hm0 := Int.mul_nonneg (show 0 ≤ i by omega) (show 0 ≤ g.f1 by omega)
    have hw : wrap64 (i * g.f1) = i * g.f1 := by unfold wrap64; omega
    rw [headgateref14_May.l0, if_pos (by omega), hw, if_neg (hj i (Int.le_refl _) (by omega)), show wrap64 (i + 1) = i + 1 by unfold wrap64; omega]
    exact ih k (i + 1) (by omega) (by omega) (by omega) (fun j h1 h2 => hj j (by omega) h2) (by omega)
theorem may_no (g : S23) (hg : chkG g = false) : headgateref14_May.f 12 g.f0 g.f1 g.f2 = some false := by
  unfold chkG at hg
  have hg' := of_decide_eq_false hg
  unfold headgateref14_May.f
  by_cases c1 : g.f0 < 1
  · rw [if_pos c1, headgateref14_May.j0, if_pos rfl]
  rw [if_neg c1]
  by_cases c2 : g.f0 > 1048576
  · rw [if_pos c2, headgateref14_May.j0, if_pos rfl]
  rw [if_neg c2]
  by_cases c3 : g.f1 < 1
  · rw [if_pos c3, headgateref14_May.j0, if_pos rfl]
  rw [if_neg c3]
  by_cases c4 : g.f1 > g.f0
  · rw [if_pos c4, headgateref14_May.j0, if_pos rfl]
  rw [if_neg c4]
  by_cases c5 : g.f2 < 0
  · rw [if_pos c5, headgateref14_May.j0, if_pos rfl]
  rw [if_neg c5]
  by_cases c6 : g.f2 > 1048576
  · rw [decide_eq_true c6, headgateref14_May.j0, if_pos rfl]
  rw [decide_eq_false c6, headgateref14_May.j0, if_neg (by decide)]
  refine may_l0_no g (by omega) (by omega) (by omega) 8 11 1 (by omega) rfl (by omega) (fun j h1 h2 e => hg' ?_) (by omega)
  have e1 : Int.tmod g.f0 g.f1 = 0 := by rw [← e]; exact Int.mul_tmod_left _ _
  have e2 : Int.tdiv g.f0 g.f1 = j := by rw [← e]; exact Int.mul_tdiv_cancel _ (by omega)
  rw [e2]
  exact ⟨by omega, by omega, by omega, by omega, e1, by unfold wrap64; omega, by omega, by omega⟩
theorem may14_no (g : S23) (hg : chkG g = false) (w : World) : Calls Try.prog 24 #[gridV g] w fun e w' => e = .returned (.bool false) ∧ Below w.heap.size w w' := headgateref14_May.calls 12 g.f0 g.f1 g.f2 false w (may_no g hg)
theorem may14_yes (g : S23) (hg : chkG g = true) (w : World) : Calls Try.prog 24 #[gridV g] w fun e w' => e = .returned (.bool true) ∧ Below w.heap.size w w' := headgateref14_May.calls 10 g.f0 g.f1 g.f2 true w (may_ref g hg)
def sumH (h0 h1 h2 h3 : Int) : Nat → Int
  | 0 => 0
  | 1 => h0
  | 2 => h0 + h1
  | 3 => h0 + h1 + h2
  | _ => h0 + h1 + h2 + h3
set_option maxHeartbeats 16000000 in
set_option maxRecDepth 100000 in
theorem may15_calls (a : S44) (h : aggW a) (hc1 : 1 ≤ a.f0) (w : World) : Calls Try.prog 67 #[aggV a] w fun e w' => e = .returned (.bool true) ∧ Below w.heap.size w w' := by
  obtain ⟨q0, q1, q2, q3, q4, q5, q6, q7, q8, q9, q10, q11⟩ := h
  obtain ⟨c, s, m, x, ⟨h0, h1, h2, h3⟩, re, im⟩ := a
  simp only at q0 q1 q2 q3 q4 q5 q6 q7 q8 q9 q10 q11 hc1
  have hu := Try.underlying44
  have b0 : decide (c < 1) = false := decide_eq_false (by omega)
  have b1 : decide (1099511627776 < c) = false := decide_eq_false (by omega)
  have b2 : decide (x < m) = false := decide_eq_false (by omega)
  go_enter Try.func67, Try.ntmps67
  go_upto_region 4 with fail
  go_wp2
  go_loopg [3, 4] 4 (fun kq v3 v4 WX => ∃ (k : Nat), k ≤ 4 ∧ v4 = .int .i64 (k : Int) ∧ v3 = .int .i64 (sumH h0 h1 h2 h3 k) ∧ 4 - k ≤ kq ∧ WX = (w.alloc (.cells #[.int .i64 c, .int .i64 s, .int .i64 m, .int .i64 x, .int .i64 h0, .int .i64 h1, .int .i64 h2, .int .i64 h3, .int .i64 re, .int .i64 im] 44)))
  case atStart => exact ⟨0, by omega, rfl, rfl, by omega, rfl⟩
  case round =>
    obtain ⟨k, hk, rfl, rfl, hkq, rfl⟩ := hrel
    by_cases hk4 : k = 4
    · subst hk4
      have e : sumH h0 h1 h2 h3 4 = c := q6
      rw [e]
      have b3 : decide (re < -1099511627776) = false := decide_eq_false (by omega)
      have b4 : decide (1099511627776 < re) = false := decide_eq_false (by omega)
      have b5 : decide (im < -1099511627776) = false := decide_eq_false (by omega)
      have b6 : decide (1099511627776 < im) = false := decide_eq_false (by omega)
      have b7 : (c == c) = true := beq_self_eq_true c
      go_upto_region 12 with fail
      obtain ⟨WX, hWX⟩ : ∃ W, W = (w.alloc (.cells #[.int .i64 c, .int .i64 s, .int .i64 m, .int .i64 x, .int .i64 h0, .int .i64 h1, .int .i64 h2, .int .i64 h3, .int .i64 re, .int .i64 im] 44)) := ⟨_, rfl⟩
      have hblk : WX.heap[w.heap.size]? = some (.cells #[.int .i64 c, .int .i64 s, .int .i64 m, .int .i64 x, .int .i64 h0, .int .i64 h1, .int .i64 h2, .int .i64 h3, .int .i64 re, .int .i64 im] 44 (0, 0)) := by rw [hWX]; exact heap_alloc_new _ _
      have hbl : Below w.heap.size w WX := by rw [hWX]; exact below_alloc (Below.refl _ _) _
      rw [← hWX]
      have HRE := Lib.hid (show WX.cell? ⟨w.heap.size, 8, none⟩ = some (.int .i64 re) from (blk_cell hblk 8).trans rfl)
      have HIM := Lib.hid (show WX.cell? ⟨w.heap.size, 9, none⟩ = some (.int .i64 im) from (blk_cell hblk 9).trans rfl)
      have HC := Lib.hid (show WX.cell? ⟨w.heap.size, 0, none⟩ = some (.int .i64 c) from (blk_cell hblk 0).trans rfl)
      have HBL := Lib.hid hbl
      clear hWX hblk hbl b0 b1 b2 b3 b4 b5 b6 b7 e
      refine wp_region_held_drew (S := fun w_ => Below WX.heap.size WX w_) (by kernel_rfl) (below_drew (Below.refl _ _)) (fun hS_ => ?_)
      have hS : Below WX.heap.size WX _ := hS_
      clear hS_
      change wpAnyH _ _ _ _ _ 6 #[false, false, false, false, false, false] _ _
      refine takeE 0 (some 68) #[true, false, false, false, false, false] hS ?_
      refine takeE 1 (some 69) #[true, true, false, false, false, false] hS ?_ (hy := fun w_ hS_ => by (replace hS_ : Below WX.heap.size WX w_ := hS_); have a0_ := below_cell hS_ HRE.out; go_simp <;> with_reducible rfl)
      refine takeE 2 (some 70) #[true, true, true, false, false, false] hS ?_
      refine takeE 3 (some 71) #[true, true, true, true, false, false] hS ?_ (hy := fun w_ hS_ => by (replace hS_ : Below WX.heap.size WX w_ := hS_); have a1_ := below_cell hS_ HIM.out; go_simp <;> with_reducible rfl)
      refine takeE 4 (some 5) #[true, true, true, true, true, false] hS ?_
      refine takeE 5 (some 6) #[true, true, true, true, true, true] hS ?_
      refine wpAnyH_done (by kernel_rfl) ?_ _
      try go_simp
      have hS2 := Lib.hid hS
      have z0 := below_cell hS HC.out
      clear hS
      have w0 : wrap64 (-re) = -re := by unfold wrap64; omega
      have w1 : wrap64 (-im) = -im := by unfold wrap64; omega
      by_cases s0 : re < 0
      · have d0 : decide (re < 0) = true := decide_eq_true s0
        by_cases s1 : im < 0
        · have d1 : decide (im < 0) = true := decide_eq_true s1
          have w2 : wrap64 (-re + -im) = -re + -im := by unfold wrap64; omega
          have d2 : decide (-re + -im ≤ c) = true := decide_eq_true (by omega)
          go_wp2
          go_ret
          exact ⟨rfl, HBL.out.trans (hS2.out.mono HBL.out.size)⟩
        · have d1 : decide (im < 0) = false := decide_eq_false s1
          have w2 : wrap64 (-re + im) = -re + im := by unfold wrap64; omega
          have d2 : decide (-re + im ≤ c) = true := decide_eq_true (by omega)
          go_wp2
          go_ret
          exact ⟨rfl, HBL.out.trans (hS2.out.mono HBL.out.size)⟩
      · have d0 : decide (re < 0) = false := decide_eq_false s0
        by_cases s1 : im < 0
        · have d1 : decide (im < 0) = true := decide_eq_true s1
          have w2 : wrap64 (re + -im) = re + -im := by unfold wrap64; omega
          have d2 : decide (re + -im ≤ c) = true := decide_eq_true (by omega)
          go_wp2
          go_ret
          exact ⟨rfl, HBL.out.trans (hS2.out.mono HBL.out.size)⟩
        · have d1 : decide (im < 0) = false := decide_eq_false s1
          have w2 : wrap64 (re + im) = re + im := by unfold wrap64; omega
          have d2 : decide (re + im ≤ c) = true := decide_eq_true (by omega)
          go_wp2
          go_ret
          exact ⟨rfl, HBL.out.trans (hS2.out.mono HBL.out.size)⟩
    · have hlt : decide ((k : Int) < 4) = true := decide_eq_true (by omega)
      cases gk with
      | zero => omega
      | succ gk =>
      have hkk : k = 0 ∨ k = 1 ∨ k = 2 ∨ k = 3 := by omega
      rcases hkk with rfl | rfl | rfl | rfl
      · have e0 : decide (h0 < 0) = false := decide_eq_false (by omega)
        have e1 : decide (1099511627776 < h0) = false := decide_eq_false (by omega)
        have e2 : wrap64 (sumH h0 h1 h2 h3 0 + h0) = sumH h0 h1 h2 h3 1 := by simp only [sumH]; unfold wrap64; omega
        go_wp2
        go_roundg gk
        case measure => omega
        case rel => exact ⟨1, by omega, rfl, by first | rfl | (rw [← e2]; rfl) | (rw [← e2]), by omega, rfl⟩
      · have e0 : decide (h1 < 0) = false := decide_eq_false (by omega)
        have e1 : decide (1099511627776 < h1) = false := decide_eq_false (by omega)
        have e2 : wrap64 (sumH h0 h1 h2 h3 1 + h1) = sumH h0 h1 h2 h3 2 := by simp only [sumH]; unfold wrap64; omega
        go_wp2
        go_roundg gk
        case measure => omega
        case rel => exact ⟨2, by omega, rfl, by first | rfl | (rw [← e2]; rfl) | (rw [← e2]), by omega, rfl⟩
      · have e0 : decide (h2 < 0) = false := decide_eq_false (by omega)
        have e1 : decide (1099511627776 < h2) = false := decide_eq_false (by omega)
        have e2 : wrap64 (sumH h0 h1 h2 h3 2 + h2) = sumH h0 h1 h2 h3 3 := by simp only [sumH]; unfold wrap64; omega
        go_wp2
        go_roundg gk
        case measure => omega
        case rel => exact ⟨3, by omega, rfl, by first | rfl | (rw [← e2]; rfl) | (rw [← e2]), by omega, rfl⟩
      · have e0 : decide (h3 < 0) = false := decide_eq_false (by omega)
        have e1 : decide (1099511627776 < h3) = false := decide_eq_false (by omega)
        have e2 : wrap64 (sumH h0 h1 h2 h3 3 + h3) = sumH h0 h1 h2 h3 4 := by simp only [sumH]; unfold wrap64; omega
        go_wp2
        go_roundg gk
        case measure => omega
        case rel => exact ⟨4, by omega, rfl, by first | rfl | (rw [← e2]; rfl) | (rw [← e2]), by omega, rfl⟩
end
section
open Go.RowKit Go.Proofs.YtgipepjpkmlmaaaW.PrintWords Go.Proofs.YtgipepjpkmlmaaaW.PrintLast Go.Proofs.YtgipepjpkmlmaaaW.PrintMore
def putL (w : World) (g : Nat) : Nat → List Value → World
  | _, [] => w
  | o, v :: vs => putL (w.setCell ⟨g, o, none⟩ v) g (o + 1) vs
theorem putL_other {g k : Nat} (h : k ≠ g) : ∀ (vs : List Value) (o : Nat) (w : World), (putL w g o vs).heap[k]? = w.heap[k]?
  | [], o, w => rfl
  | v :: vs, o, w => (putL_other h vs (o + 1) _).trans (heap_setCell_other w (⟨g, o, none⟩ : Addr) k v h)
def put12 (w : World) (g : Nat) (a0 a1 a2 a3 a4 a5 a6 a7 a8 a9 a10 a11 : Value) : World := ((((((((((((w.setCell ⟨g, 0, none⟩ a0).setCell ⟨g, 1, none⟩ a1).setCell ⟨g, 2, none⟩ a2).setCell ⟨g, 3, none⟩ a3).setCell ⟨g, 4, none⟩ a4).setCell ⟨g, 5, none⟩ a5).setCell ⟨g, 6, none⟩ a6).setCell ⟨g, 7, none⟩ a7).setCell ⟨g, 8, none⟩ a8).setCell ⟨g, 9, none⟩ a9).setCell ⟨g, 10, none⟩ a10).setCell ⟨g, 11, none⟩ a11)
theorem put12_heap {w : World} {g : Nat} {b0 b1 b2 b3 b4 b5 b6 b7 b8 b9 b10 b11 : Value} (h : w.heap[g]? = some (.cells #[b0, b1, b2, b3, b4, b5, b6, b7, b8, b9, b10, b11] 46 (0, 0))) (a0 a1 a2 a3 a4 a5 a6 a7 a8 a9 a10 a11 : Value) : (put12 w g a0 a1 a2 a3 a4 a5 a6 a7 a8 a9 a10 a11).heap[g]? = some (.cells #[a0, a1, a2, a3, a4, a5, a6, a7, a8, a9, a10, a11] 46 (0, 0)) := by
  unfold put12
  have g0 := blk_put (cs' := #[a0, b1, b2, b3, b4, b5, b6, b7, b8, b9, b10, b11]) h 0 a0 rfl
  have g1 := blk_put (cs' := #[a0, a1, b2, b3, b4, b5, b6, b7, b8, b9, b10, b11]) g0 1 a1 rfl
  have g2 := blk_put (cs' := #[a0, a1, a2, b3, b4, b5, b6, b7, b8, b9, b10, b11]) g1 2 a2 rfl
  have g3 := blk_put (cs' := #[a0, a1, a2, a3, b4, b5, b6, b7, b8, b9, b10, b11]) g2 3 a3 rfl
  have g4 := blk_put (cs' := #[a0, a1, a2, a3, a4, b5, b6, b7, b8, b9, b10, b11]) g3 4 a4 rfl
  have g5 := blk_put (cs' := #[a0, a1, a2, a3, a4, a5, b6, b7, b8, b9, b10, b11]) g4 5 a5 rfl
  have g6 := blk_put (cs' := #[a0, a1, a2, a3, a4, a5, a6, b7, b8, b9, b10, b11]) g5 6 a6 rfl
  have g7 := blk_put (cs' := #[a0, a1, a2, a3, a4, a5, a6, a7, b8, b9, b10, b11]) g6 7 a7 rfl
  have g8 := blk_put (cs' := #[a0, a1, a2, a3, a4, a5, a6, a7, a8, b9, b10, b11]) g7 8 a8 rfl
  have g9 := blk_put (cs' := #[a0, a1, a2, a3, a4, a5, a6, a7, a8, a9, b10, b11]) g8 9 a9 rfl
  have g10 := blk_put (cs' := #[a0, a1, a2, a3, a4, a5, a6, a7, a8, a9, a10, b11]) g9 10 a10 rfl
  have g11 := blk_put (cs' := #[a0, a1, a2, a3, a4, a5, a6, a7, a8, a9, a10, a11]) g10 11 a11 rfl
  exact g11
theorem put12_other {w : World} {g k : Nat} (h : k ≠ g) (a0 a1 a2 a3 a4 a5 a6 a7 a8 a9 a10 a11 : Value) : (put12 w g a0 a1 a2 a3 a4 a5 a6 a7 a8 a9 a10 a11).heap[k]? = w.heap[k]? := by
  have e : put12 w g a0 a1 a2 a3 a4 a5 a6 a7 a8 a9 a10 a11 = putL w g 0 [a0, a1, a2, a3, a4, a5, a6, a7, a8, a9, a10, a11] := rfl
  rw [e]
  exact putL_other h _ _ _
theorem put12_below {B g : Nat} {w0 w : World} (h : Below B w0 w) (hg : B ≤ g) (a0 a1 a2 a3 a4 a5 a6 a7 a8 a9 a10 a11 : Value) : Below B w0 (put12 w g a0 a1 a2 a3 a4 a5 a6 a7 a8 a9 a10 a11) := by
  unfold put12
  exact ((((((((((((h.setCell hg _).setCell hg _).setCell hg _).setCell hg _).setCell hg _).setCell hg _).setCell hg _).setCell hg _).setCell hg _).setCell hg _).setCell hg _).setCell hg _)
def put10 (w : World) (g : Nat) (a2 a3 a4 a5 a6 a7 a8 a9 a10 a11 : Value) : World := ((((((((((w.setCell ⟨g, 2, none⟩ a2).setCell ⟨g, 3, none⟩ a3).setCell ⟨g, 4, none⟩ a4).setCell ⟨g, 5, none⟩ a5).setCell ⟨g, 6, none⟩ a6).setCell ⟨g, 7, none⟩ a7).setCell ⟨g, 8, none⟩ a8).setCell ⟨g, 9, none⟩ a9).setCell ⟨g, 10, none⟩ a10).setCell ⟨g, 11, none⟩ a11)
theorem put10_heap {w : World} {g : Nat} {b0 b1 b2 b3 b4 b5 b6 b7 b8 b9 b10 b11 : Value} (h : w.heap[g]? = some (.cells #[b0, b1, b2, b3, b4, b5, b6, b7, b8, b9, b10, b11] 46 (0, 0))) (a2 a3 a4 a5 a6 a7 a8 a9 a10 a11 : Value) : (put10 w g a2 a3 a4 a5 a6 a7 a8 a9 a10 a11).heap[g]? = some (.cells #[b0, b1, a2, a3, a4, a5, a6, a7, a8, a9, a10, a11] 46 (0, 0)) := by
  unfold put10
  have g0 := blk_put (cs' := #[b0, b1, a2, b3, b4, b5, b6, b7, b8, b9, b10, b11]) h 2 a2 rfl
  have g1 := blk_put (cs' := #[b0, b1, a2, a3, b4, b5, b6, b7, b8, b9, b10, b11]) g0 3 a3 rfl
  have g2 := blk_put (cs' := #[b0, b1, a2, a3, a4, b5, b6, b7, b8, b9, b10, b11]) g1 4 a4 rfl
  have g3 := blk_put (cs' := #[b0, b1, a2, a3, a4, a5, b6, b7, b8, b9, b10, b11]) g2 5 a5 rfl
  have g4 := blk_put (cs' := #[b0, b1, a2, a3, a4, a5, a6, b7, b8, b9, b10, b11]) g3 6 a6 rfl
  have g5 := blk_put (cs' := #[b0, b1, a2, a3, a4, a5, a6, a7, b8, b9, b10, b11]) g4 7 a7 rfl
  have g6 := blk_put (cs' := #[b0, b1, a2, a3, a4, a5, a6, a7, a8, b9, b10, b11]) g5 8 a8 rfl
  have g7 := blk_put (cs' := #[b0, b1, a2, a3, a4, a5, a6, a7, a8, a9, b10, b11]) g6 9 a9 rfl
  have g8 := blk_put (cs' := #[b0, b1, a2, a3, a4, a5, a6, a7, a8, a9, a10, b11]) g7 10 a10 rfl
  have g9 := blk_put (cs' := #[b0, b1, a2, a3, a4, a5, a6, a7, a8, a9, a10, a11]) g8 11 a11 rfl
  exact g9
theorem put10_other {w : World} {g k : Nat} (h : k ≠ g) (a2 a3 a4 a5 a6 a7 a8 a9 a10 a11 : Value) : (put10 w g a2 a3 a4 a5 a6 a7 a8 a9 a10 a11).heap[k]? = w.heap[k]? := by
  have e : put10 w g a2 a3 a4 a5 a6 a7 a8 a9 a10 a11 = putL w g 2 [a2, a3, a4, a5, a6, a7, a8, a9, a10, a11] := rfl
  rw [e]
  exact putL_other h _ _ _
theorem put10_below {B g : Nat} {w0 w : World} (h : Below B w0 w) (hg : B ≤ g) (a2 a3 a4 a5 a6 a7 a8 a9 a10 a11 : Value) : Below B w0 (put10 w g a2 a3 a4 a5 a6 a7 a8 a9 a10 a11) := by
  unfold put10
  exact ((((((((((h.setCell hg _).setCell hg _).setCell hg _).setCell hg _).setCell hg _).setCell hg _).setCell hg _).setCell hg _).setCell hg _).setCell hg _)
theorem put_place (l : List S46) (x : S46) (hs : srt l) (i : Nat) (hi : i ≤ l.length) (h1 : ∀ m, m < i → ltC (rd_T46 l (m : Int)) x) (h2 : i < l.length → ¬ ltC (rd_T46 l (i : Int)) x) :
    bsI l x = i ∧ (i < l.length → aheadB x (rd_T46 l (i : Int)) = !bsF l x) ∧ (bsF l x = true → i < l.length) := by
  obtain ⟨s1, s2⟩ := bsI_spec l x hs
  obtain ⟨p1, p2⟩ := place l x hs
  have hle : bsI l x ≤ l.length := bsL_le l x (l.length + 1) 0 l.length (Nat.zero_le _)
  have e : bsI l x = i := by
    rcases Nat.lt_trichotomy (bsI l x) i with h | h | h
    · exact absurd (h1 _ h) (s2 _ (Nat.le_refl _) (by omega))
    · exact h
    · exact absurd (s1 _ h) (h2 (by omega))
  rw [e] at p1 p2
  refine ⟨e, fun hl => ?_, fun hf => (p1 hf).1⟩
  cases hf : bsF l x with
  | true =>
    have hk := (p1 hf).2
    unfold keyC at hk
    injection hk with k1 k2
    show aheadB x _ = false
    rw [Bool.eq_false_iff]
    intro h
    have := (aheadB_iff _ _).1 h
    unfold ltC at this
    omega
  | false =>
    have hp := p2 hf
    show aheadB x _ = true
    rw [aheadB_iff, rd_get l i hl]
    rw [List.pairwise_append] at hp
    have hp2 := hp.2.1
    rw [List.drop_eq_getElem_cons hl, List.pairwise_cons] at hp2
    exact hp2.1 _ List.mem_cons_self
theorem take_put (key v t : Int) (l : List S46) (i : Nat) (hi : bsI l ⟨key, t, z44⟩ = i) (hil : i ≤ l.length) (hf : bsF l ⟨key, t, z44⟩ = true → i < l.length) (y : S46) (hy : y = if bsF l ⟨key, t, z44⟩ = true then rd_T46 l (i : Int) else ⟨key, t, z44⟩)
    (j : Nat) (hj : j = if bsF l ⟨key, t, z44⟩ = true then i + 1 else i) : takeS key v t l = l.take i ++ [⟨y.f0, y.f1, addP y.f2 v⟩] ++ l.drop j := by
  unfold takeS
  simp only [hi]
  cases hb : bsF l ⟨key, t, z44⟩ with
  | true =>
    rw [hb, if_pos rfl] at hy hj
    rw [if_pos rfl, ← hy, List.set_eq_take_append_cons_drop, if_pos (hf hb), hj]
    simp
  | false =>
    rw [hb, if_neg (by decide)] at hy hj
    rw [if_neg (by decide)]
    have hlen : (l.take i).length = i := by rw [List.length_take]; omega
    have hrd : rd_T46 (l.take i ++ (⟨key, t, z44⟩ : S46) :: l.drop i) (i : Int) = ⟨key, t, z44⟩ := by
      rw [rd_get _ i (by simp; omega)]
      rw [List.getElem_append_right (by omega)]
      simp [hlen]
    rw [hrd, List.set_append_right _ _ (by omega), hlen, Nat.sub_self, List.set_cons_zero, hj, hy]
    simp
theorem cut46_C {w : World} {A : Option Addr} {xs : List S46} {m c : Nat} (h : k46.C w A xs.length xs) (hm : m ≤ xs.length) (hc : xs.length ≤ c) : k46.C w (if c = m then A else A.map (·.add (m * 12))) (xs.drop m).length (xs.drop m) := by
  have hl : (xs.drop m).length = xs.length - m := List.length_drop
  refine ⟨rfl, by rw [hl]; have := h.2.1; omega, fun hp => ?_⟩
  rw [hl] at hp
  obtain ⟨ad, rfl, hcell⟩ := h.2.2 (by omega)
  rw [if_neg (by omega)]
  refine ⟨ad.add (m * 12), rfl, fun j p hj => ?_⟩
  rw [List.getElem?_drop] at hj
  obtain ⟨cs, h1, h2, h3⟩ := hcell (m + j) p hj
  refine ⟨cs, h1, h2, fun i u hu => ?_⟩
  have e : k46.sz = 12 := rfl
  rw [e] at h3 ⊢
  rw [add_add, show m * 12 + (j * 12 + i) = (m + j) * 12 + i by omega]
  exact h3 i u hu
end
section
open Go.RowKit Go.Proofs.YtgipepjpkmlmaaaW.PrintWords Go.Proofs.YtgipepjpkmlmaaaW.PrintLast Go.Proofs.YtgipepjpkmlmaaaW.PrintMore
theorem aggI_zero : aggI z44 := ⟨by decide, by decide, by decide, by decide, fun k => by unfold hist; split <;> decide, by decide, by decide, by decide, by decide⟩
set_option maxHeartbeats 16000000 in
set_option maxRecDepth 100000 in
theorem putR_calls (l : List S46) (hs : srt l) (hl : l.length ≤ 1000) (key t v : Int) (ha : ∀ c ∈ l, aggI c.f2) (v0 : -9223372036854775808 ≤ v) (v1 : v ≤ 9223372036854775807) (A : Option Addr) (c : Nat) (w : World) (hr : k46.C w A l.length l) (hc : l.length ≤ c) :
    Calls Try.prog 76 #[.slice A l.length c, .int .i64 key, .int .i64 t, .int .i64 v] w fun e w' => ∃ u, e = .returned u ∧ Kd.R k46 46 w' w.heap.size (fun _ => True) u (takeS key v t l) ∧ Below w.heap.size w w' := by
  obtain ⟨T, hT⟩ : ∃ T, takeS key v t l = T := ⟨_, rfl⟩
  rw [hT]
  have HT := Lib.hid hT
  have HS := Lib.hid hs
  have HA := Lib.hid ha
  clear hT hs ha
  obtain ⟨W1, hW1⟩ : ∃ W, W = w.alloc (.cells #[.int .i64 key, .int .i64 t, .int .i64 0, .int .i64 0, .int .i64 0, .int .i64 0, .int .i64 0, .int .i64 0, .int .i64 0, .int .i64 0, .int .i64 0, .int .i64 0] 46) := ⟨_, rfl⟩
  have hbx : W1.heap[w.heap.size]? = some (.cells #[.int .i64 key, .int .i64 t, .int .i64 0, .int .i64 0, .int .i64 0, .int .i64 0, .int .i64 0, .int .i64 0, .int .i64 0, .int .i64 0, .int .i64 0, .int .i64 0] 46 (0, 0)) := by rw [hW1]; exact heap_alloc_new _ _
  have hb1 : Below w.heap.size w W1 := by rw [hW1]; exact below_alloc (Below.refl _ _) _
  have hsz : W1.heap.size = w.heap.size + 1 := by rw [hW1]; simp
  have HCW := Lib.hid hr
  have HC1 := Lib.hid (Kd.C_below hr hb1)
  have HBX := Lib.hid hbx
  have HB1 := Lib.hid hb1
  have HSZ := Lib.hid hsz
  have HW1 := Lib.hid hW1
  clear hW1 hbx hb1 hsz hr
  go_enter Try.func76, Try.ntmps76
  go_upto_region 2 with fail
  rw [← HW1.out]
  go_upto_block 0 with fail
  go_cut [10, 11] from 15 to 35 (fun v10 v11 wc => ∃ (i : Nat) (A2 : Option Addr) (c2 : Nat), v11 = .int .i64 (i : Int) ∧ i ≤ l.length ∧ v10 = .slice A2 i c2 ∧ Kd.R k46 46 wc W1.heap.size (fun _ => True) (.slice A2 i c2) (l.take i) ∧ (∀ m, m < i → ltC (rd_T46 l (m : Int)) ⟨key, t, z44⟩) ∧ (i < l.length → ¬ ltC (rd_T46 l (i : Int)) ⟨key, t, z44⟩) ∧ Below W1.heap.size W1 wc)
  case first =>
    go_wp2
    go_loopg [10, 11] l.length (fun kq v10 v11 WX => ∃ (i : Nat) (A2 : Option Addr) (c2 : Nat), v11 = .int .i64 (i : Int) ∧ i ≤ l.length ∧ l.length - i ≤ kq ∧ v10 = .slice A2 i c2 ∧ Kd.R k46 46 WX W1.heap.size (fun _ => True) (.slice A2 i c2) (l.take i) ∧ (∀ m, m < i → ltC (rd_T46 l (m : Int)) ⟨key, t, z44⟩) ∧ Below W1.heap.size W1 WX)
    case atStart => exact ⟨0, none, 0, rfl, Nat.zero_le _, by omega, rfl, Kd.R_nil _ _ _ _ _, fun m h => absurd h (Nat.not_lt_zero _), Below.refl _ _⟩
    case round =>
      obtain ⟨i, A2, c2, rfl, hil, hik, rfl, hR2, hlt, hbr⟩ := hrel
      obtain ⟨WX, hWX⟩ : ∃ W, W = wr := ⟨_, rfl⟩
      subst hWX
      have HR2 := Lib.hid hR2
      have HLT := Lib.hid hlt
      have HBR := Lib.hid hbr
      have hi64 : i ≤ 1000 := by omega
      clear hR2 hlt hbr
      by_cases hin : i < l.length
      rotate_left
      · have hnb : decide ((i : Int) < (l.length : Int)) = false := decide_eq_false (by omega)
        have hnn : ¬ i < l.length := hin
        go_wp2
        refine wp_region_held_drew (S := fun w_ => Below WX.heap.size WX w_) (by kernel_rfl) (below_drew (Below.refl _ _)) (fun hS_ => ?_)
        have hS : Below WX.heap.size WX _ := hS_
        clear hS_
        change wpAnyH _ _ _ _ _ 12 #[false, false, false, false, false, false, false, false, false, false, false, false] _ _
        refine takeE 0 (some 15) #[true, false, false, false, false, false, false, false, false, false, false, false] hS ?_
        refine takeE 1 (some 16) #[true, true, false, false, false, false, false, false, false, false, false, false] hS ?_
        refine doD (i := 2) (ls2 := #[true, true, true, false, false, false, false, false, false, false, false, false]) (by kernel_rfl) rfl (by kernel_rfl) (by kernel_rfl) (fun K hK => ?_)
        go_simp
        refine hK.out _ _ ?_ (fun hS_ => ?_)
        · show Below WX.heap.size WX _
          exact hS
        clear hK K hS
        have hS : Below WX.heap.size WX _ := hS_
        clear hS_
        refine takeE 3 (some 18) #[true, true, true, true, false, false, false, false, false, false, false, false] hS ?_
        refine takeE 4 (some 19) #[true, true, true, true, true, false, false, false, false, false, false, false] hS ?_
        refine offE 5 (some 20) #[true, true, true, true, true, true, false, false, false, false, false, false] hS ?_
        refine offE 6 (some 21) #[true, true, true, true, true, true, true, false, false, false, false, false] hS ?_
        refine offE 7 (some 22) #[true, true, true, true, true, true, true, true, false, false, false, false] hS ?_
        refine offE 8 (some 23) #[true, true, true, true, true, true, true, true, true, false, false, false] hS ?_
        refine offE 9 (some 24) #[true, true, true, true, true, true, true, true, true, true, false, false] hS ?_
        refine offE 10 (some 25) #[true, true, true, true, true, true, true, true, true, true, true, false] hS ?_
        refine takeE 11 (some 26) #[true, true, true, true, true, true, true, true, true, true, true, true] hS ?_
        refine wpAnyH_done (by kernel_rfl) ?_ _
        try go_simp
        have HSS := Lib.hid hS
        clear hS
        go_wp2
        go_meet
        case rel => exact ⟨i, A2, c2, rfl, hil, rfl, Kd.R_below HR2.out HSS.out, HLT.out, fun h => absurd h hin, HBR.out.trans (HSS.out.mono HBR.out.size)⟩
      have d1 : decide ((i : Int) < (l.length : Int)) = true := decide_eq_true (by omega)
      have hbi : (0 : Int) ≤ (i : Int) ∧ (i : Int) < (l.length : Int) := by omega
      have hwi : IntKind.i64.wrap ((i : Int) + 1) = (i : Int) + 1 := by rw [IntKind.wrap_i64]; omega
      obtain ⟨ad, had, x0, x1, x2, x3, x4, x5, x6, x7, x8, x9, x10, x11⟩ := at_T46 (Kd.C_below HC1.out HBR.out) (i : Int) (by omega) (by omega)
      cases had
      rw [Int.toNat_natCast] at x0 x1 x2 x3 x4 x5 x6 x7 x8 x9 x10 x11
      have htk : l.take (i + 1) = l.take i ++ [rd_T46 l (i : Int)] := by rw [List.take_succ_eq_append_getElem hin, rd_get l i hin]
      obtain ⟨x, hx⟩ : ∃ x, rd_T46 l (i : Int) = x := ⟨_, rfl⟩
      rw [hx] at x0 x1 x2 x3 x4 x5 x6 x7 x8 x9 x10 x11 htk
      have hah : ∀ w, Calls Try.prog 64 #[cellV x, .agg #[.int .i64 key, .int .i64 t, .int .i64 0, .int .i64 0, .int .i64 0, .int .i64 0, .int .i64 0, .int .i64 0, .int .i64 0, .int .i64 0, .int .i64 0, .int .i64 0]] w fun e w' => e = .returned (.bool (aheadB x ⟨key, t, z44⟩)) ∧ Below w.heap.size w w' := fun w => aheadR_calls x ⟨key, t, z44⟩ w
      obtain ⟨b, hb⟩ : ∃ b, aheadB x ⟨key, t, z44⟩ = b := ⟨_, rfl⟩
      rw [hb] at hah
      have hyb := blk_below HBX.out HBR.out
      have HL0 := Lib.hid x0
      have HL1 := Lib.hid x1
      have HL2 := Lib.hid x2
      have HL3 := Lib.hid x3
      have HL4 := Lib.hid x4
      have HL5 := Lib.hid x5
      have HL6 := Lib.hid x6
      have HL7 := Lib.hid x7
      have HL8 := Lib.hid x8
      have HL9 := Lib.hid x9
      have HL10 := Lib.hid x10
      have HL11 := Lib.hid x11
      have HY0 := Lib.hid (show WX.cell? ⟨w.heap.size, 0, none⟩ = some (.int .i64 key) from (blk_cell hyb 0).trans rfl)
      have HY1 := Lib.hid (show WX.cell? ⟨w.heap.size, 1, none⟩ = some (.int .i64 t) from (blk_cell hyb 1).trans rfl)
      have HY2 := Lib.hid (show WX.cell? ⟨w.heap.size, 2, none⟩ = some (.int .i64 0) from (blk_cell hyb 2).trans rfl)
      have HY3 := Lib.hid (show WX.cell? ⟨w.heap.size, 3, none⟩ = some (.int .i64 0) from (blk_cell hyb 3).trans rfl)
      have HY4 := Lib.hid (show WX.cell? ⟨w.heap.size, 4, none⟩ = some (.int .i64 0) from (blk_cell hyb 4).trans rfl)
      have HY5 := Lib.hid (show WX.cell? ⟨w.heap.size, 5, none⟩ = some (.int .i64 0) from (blk_cell hyb 5).trans rfl)
      have HY6 := Lib.hid (show WX.cell? ⟨w.heap.size, 6, none⟩ = some (.int .i64 0) from (blk_cell hyb 6).trans rfl)
      have HY7 := Lib.hid (show WX.cell? ⟨w.heap.size, 7, none⟩ = some (.int .i64 0) from (blk_cell hyb 7).trans rfl)
      have HY8 := Lib.hid (show WX.cell? ⟨w.heap.size, 8, none⟩ = some (.int .i64 0) from (blk_cell hyb 8).trans rfl)
      have HY9 := Lib.hid (show WX.cell? ⟨w.heap.size, 9, none⟩ = some (.int .i64 0) from (blk_cell hyb 9).trans rfl)
      have HY10 := Lib.hid (show WX.cell? ⟨w.heap.size, 10, none⟩ = some (.int .i64 0) from (blk_cell hyb 10).trans rfl)
      have HY11 := Lib.hid (show WX.cell? ⟨w.heap.size, 11, none⟩ = some (.int .i64 0) from (blk_cell hyb 11).trans rfl)
      have HAH := Lib.hid hah
      have HX := Lib.hid hx
      have HTK := Lib.hid htk
      have HB := Lib.hid hb
      clear hah hx htk hb hyb x0 x1 x2 x3 x4 x5 x6 x7 x8 x9 x10 x11
      cases gk with
      | zero => omega
      | succ gk =>
      go_wp2
      cases b with
      | false =>
          refine wp_region_held_drew (S := fun w_ => Below WX.heap.size WX w_) (by kernel_rfl) (below_drew (Below.refl _ _)) (fun hS_ => ?_)
          have hS : Below WX.heap.size WX _ := hS_
          clear hS_
          change wpAnyH _ _ _ _ _ 12 #[false, false, false, false, false, false, false, false, false, false, false, false] _ _
          refine takeE 0 (some 15) #[true, false, false, false, false, false, false, false, false, false, false, false] hS ?_
          refine takeE 1 (some 16) #[true, true, false, false, false, false, false, false, false, false, false, false] hS ?_
          refine doD (i := 2) (ls2 := #[true, true, true, false, false, false, false, false, false, false, false, false]) (by kernel_rfl) rfl (by kernel_rfl) (by kernel_rfl) (fun K hK => ?_)
          go_simp
          refine hK.out _ _ ?_ (fun hS_ => ?_)
          · show Below WX.heap.size WX _
            exact hS
          clear hK K hS
          have hS : Below WX.heap.size WX _ := hS_
          clear hS_
          refine takeE 3 (some 18) #[true, true, true, true, false, false, false, false, false, false, false, false] hS ?_
          refine takeE 4 (some 19) #[true, true, true, true, true, false, false, false, false, false, false, false] hS ?_
          refine takeE 5 (some 20) #[true, true, true, true, true, true, false, false, false, false, false, false] hS ?_
          refine takeE 6 (some 21) #[true, true, true, true, true, true, true, false, false, false, false, false] hS ?_
          refine takeE 7 (some 22) #[true, true, true, true, true, true, true, true, false, false, false, false] hS ?_
          refine takeE 8 (some 23) #[true, true, true, true, true, true, true, true, true, false, false, false] hS ?_ (hy := fun w_ hS_ => by (replace hS_ : Below WX.heap.size WX w_ := hS_); have x0_ := below_cell hS_ HL0.out; have x1_ := below_cell hS_ HL1.out; have x2_ := below_cell hS_ HL2.out; have x3_ := below_cell hS_ HL3.out; have x4_ := below_cell hS_ HL4.out; have x5_ := below_cell hS_ HL5.out; have x6_ := below_cell hS_ HL6.out; have x7_ := below_cell hS_ HL7.out; have x8_ := below_cell hS_ HL8.out; have x9_ := below_cell hS_ HL9.out; have x10_ := below_cell hS_ HL10.out; have x11_ := below_cell hS_ HL11.out; go_simp <;> with_reducible rfl)
          refine takeE 9 (some 24) #[true, true, true, true, true, true, true, true, true, true, false, false] hS ?_ (hy := fun w_ hS_ => by (replace hS_ : Below WX.heap.size WX w_ := hS_); have y0_ := below_cell hS_ HY0.out; have y1_ := below_cell hS_ HY1.out; have y2_ := below_cell hS_ HY2.out; have y3_ := below_cell hS_ HY3.out; have y4_ := below_cell hS_ HY4.out; have y5_ := below_cell hS_ HY5.out; have y6_ := below_cell hS_ HY6.out; have y7_ := below_cell hS_ HY7.out; have y8_ := below_cell hS_ HY8.out; have y9_ := below_cell hS_ HY9.out; have y10_ := below_cell hS_ HY10.out; have y11_ := below_cell hS_ HY11.out; go_simp <;> with_reducible rfl)
          refine doD (i := 10) (ls2 := #[true, true, true, true, true, true, true, true, true, true, true, false]) (by kernel_rfl) rfl (by kernel_rfl) (by kernel_rfl) (fun K hK => ?_)
          go_simp
          go_wp2_with (first | (go_at_call 64; go_loud ((with_reducible refine (HAH.out _).mono ?_); rintro e w3 ⟨rfl, hb3⟩)))
          refine hK.out _ _ ?_ (fun hS_ => ?_)
          · show Below WX.heap.size WX _
            exact hS.trans (hb3.mono hS.size)
          clear hK K hS hb3
          have hS : Below WX.heap.size WX _ := hS_
          clear hS_
          refine takeE 11 (some 26) #[true, true, true, true, true, true, true, true, true, true, true, true] hS ?_
          refine wpAnyH_done (by kernel_rfl) ?_ _
          try go_simp
          have HSS := Lib.hid hS
          clear hS
          go_wp2
          go_meet
          case rel => exact ⟨i, A2, c2, rfl, hil, rfl, Kd.R_below HR2.out HSS.out, HLT.out, (fun h hc_ => by rw [HX.out, ← aheadB_iff, HB.out] at hc_; cases hc_), HBR.out.trans (HSS.out.mono HBR.out.size)⟩
      | true =>
          refine wp_region_held_drew (S := fun w_ => Below WX.heap.size WX w_) (by kernel_rfl) (below_drew (Below.refl _ _)) (fun hS_ => ?_)
          have hS : Below WX.heap.size WX _ := hS_
          clear hS_
          change wpAnyH _ _ _ _ _ 12 #[false, false, false, false, false, false, false, false, false, false, false, false] _ _
          refine takeE 0 (some 15) #[true, false, false, false, false, false, false, false, false, false, false, false] hS ?_
          refine takeE 1 (some 16) #[true, true, false, false, false, false, false, false, false, false, false, false] hS ?_
          refine doD (i := 2) (ls2 := #[true, true, true, false, false, false, false, false, false, false, false, false]) (by kernel_rfl) rfl (by kernel_rfl) (by kernel_rfl) (fun K hK => ?_)
          go_simp
          refine hK.out _ _ ?_ (fun hS_ => ?_)
          · show Below WX.heap.size WX _
            exact hS
          clear hK K hS
          have hS : Below WX.heap.size WX _ := hS_
          clear hS_
          refine takeE 3 (some 18) #[true, true, true, true, false, false, false, false, false, false, false, false] hS ?_
          refine takeE 4 (some 19) #[true, true, true, true, true, false, false, false, false, false, false, false] hS ?_
          refine takeE 5 (some 20) #[true, true, true, true, true, true, false, false, false, false, false, false] hS ?_
          refine takeE 6 (some 21) #[true, true, true, true, true, true, true, false, false, false, false, false] hS ?_
          refine takeE 7 (some 22) #[true, true, true, true, true, true, true, true, false, false, false, false] hS ?_
          refine takeE 8 (some 23) #[true, true, true, true, true, true, true, true, true, false, false, false] hS ?_ (hy := fun w_ hS_ => by (replace hS_ : Below WX.heap.size WX w_ := hS_); have x0_ := below_cell hS_ HL0.out; have x1_ := below_cell hS_ HL1.out; have x2_ := below_cell hS_ HL2.out; have x3_ := below_cell hS_ HL3.out; have x4_ := below_cell hS_ HL4.out; have x5_ := below_cell hS_ HL5.out; have x6_ := below_cell hS_ HL6.out; have x7_ := below_cell hS_ HL7.out; have x8_ := below_cell hS_ HL8.out; have x9_ := below_cell hS_ HL9.out; have x10_ := below_cell hS_ HL10.out; have x11_ := below_cell hS_ HL11.out; go_simp <;> with_reducible rfl)
          refine takeE 9 (some 24) #[true, true, true, true, true, true, true, true, true, true, false, false] hS ?_ (hy := fun w_ hS_ => by (replace hS_ : Below WX.heap.size WX w_ := hS_); have y0_ := below_cell hS_ HY0.out; have y1_ := below_cell hS_ HY1.out; have y2_ := below_cell hS_ HY2.out; have y3_ := below_cell hS_ HY3.out; have y4_ := below_cell hS_ HY4.out; have y5_ := below_cell hS_ HY5.out; have y6_ := below_cell hS_ HY6.out; have y7_ := below_cell hS_ HY7.out; have y8_ := below_cell hS_ HY8.out; have y9_ := below_cell hS_ HY9.out; have y10_ := below_cell hS_ HY10.out; have y11_ := below_cell hS_ HY11.out; go_simp <;> with_reducible rfl)
          refine doD (i := 10) (ls2 := #[true, true, true, true, true, true, true, true, true, true, true, false]) (by kernel_rfl) rfl (by kernel_rfl) (by kernel_rfl) (fun K hK => ?_)
          go_simp
          go_wp2_with (first | (go_at_call 64; go_loud ((with_reducible refine (HAH.out _).mono ?_); rintro e w3 ⟨rfl, hb3⟩)))
          refine hK.out _ _ ?_ (fun hS_ => ?_)
          · show Below WX.heap.size WX _
            exact hS.trans (hb3.mono hS.size)
          clear hK K hS hb3
          have hS : Below WX.heap.size WX _ := hS_
          clear hS_
          refine takeE 11 (some 26) #[true, true, true, true, true, true, true, true, true, true, true, true] hS ?_
          refine wpAnyH_done (by kernel_rfl) ?_ _
          try go_simp
          have HSS := Lib.hid hS
          clear hS
          have x0 := below_cell HSS.out HL0.out
          have x1 := below_cell HSS.out HL1.out
          have x2 := below_cell HSS.out HL2.out
          have x3 := below_cell HSS.out HL3.out
          have x4 := below_cell HSS.out HL4.out
          have x5 := below_cell HSS.out HL5.out
          have x6 := below_cell HSS.out HL6.out
          have x7 := below_cell HSS.out HL7.out
          have x8 := below_cell HSS.out HL8.out
          have x9 := below_cell HSS.out HL9.out
          have x10 := below_cell HSS.out HL10.out
          have x11 := below_cell HSS.out HL11.out
          have hba := (Below.refl w3.heap.size w3).alloc (Nat.le_refl _) (.cells #[.int .i64 x.f0, .int .i64 x.f1, .int .i64 x.f2.f0, .int .i64 x.f2.f1, .int .i64 x.f2.f2, .int .i64 x.f2.f3, .int .i64 x.f2.f4.f0, .int .i64 x.f2.f4.f1, .int .i64 x.f2.f4.f2, .int .i64 x.f2.f4.f3, .int .i64 x.f2.f5, .int .i64 x.f2.f6] 46)
          have hC5 : k46.C (w3.alloc (.cells #[.int .i64 x.f0, .int .i64 x.f1, .int .i64 x.f2.f0, .int .i64 x.f2.f1, .int .i64 x.f2.f2, .int .i64 x.f2.f3, .int .i64 x.f2.f4.f0, .int .i64 x.f2.f4.f1, .int .i64 x.f2.f4.f2, .int .i64 x.f2.f4.f3, .int .i64 x.f2.f5, .int .i64 x.f2.f6] 46)) (some ⟨w3.heap.size, 0, none⟩) 1 [x] := one_C (heap_alloc_new _ _)
          have h3 := HBR.out.trans (HSS.out.mono HBR.out.size)
          have hR5 := Kd.R_below (Kd.R_below HR2.out HSS.out) hba
          have hB5 := h3.trans (hba.mono h3.size)
          have hln : (l.take (i + 1)).length = i + 1 := by rw [List.length_take]; omega
          have HLN := Lib.hid hln
          have HR5 := Lib.hid hR5
          have HC5 := Lib.hid hC5
          have HB5 := Lib.hid hB5
          have htl : (l.take i).length ≤ 1000 := by rw [List.length_take]; omega
          have HTL := Lib.hid htl
          clear hba hC5 h3 hR5 hB5 hln htl
          go_wp2_with (first | ((with_reducible refine gate_builtin (b := .append) (xs := #[.tmp 27, .tmp 32]) rfl ?_); (try (refine gate_guard (by rfl) ?_; dsimp only)); at_builtin; refine Kd.R_append_rows k46 (w0 := W1) W1.heap.size rfl (.tmp 27) (.tmp 32) 26 46 (.agg #[(.int .i64 0), (.int .i64 0), (.int .i64 0), (.int .i64 0), (.int .i64 0), (.int .i64 0), (.int .i64 0), (.int .i64 0), (.int .i64 0), (.int .i64 0), (.int .i64 0), (.int .i64 0)]) 96 rfl Try.underlying26 info46 rfl (by decide) (by omega) (.slice A2 i c2) (l.take i) [x] _ _ _ (fun _ => True) (fun _ => False) rfl rfl HR5.out HC5.out (fun _ _ h => by obtain rfl := k46_open h; exact k46_mkM _ _ _ _) (fun _ h => h.elim) (fun _ _ => trivial) HB5.out HB5.out.size ?aL ?_; (case aL => have h_ := HTL.out; first | omega | (simp at h_ ⊢; omega)); intro v8 w8 hR8 hb8 hg8 hat8; rw [← HTK.out] at hR8; obtain ⟨A3, c3, hv3, hc3, _⟩ := Kd.R_reads hR8; rw [HLN.out] at hv3; subst hv3))
          go_roundg gk
          case measure => omega
          case rel => exact ⟨i + 1, A3, c3, by first | rfl | (congr 1), by omega, by omega, rfl, hR8, (fun m hm => (Nat.lt_or_ge m i).elim (HLT.out m) (fun h_ => by have e_ : m = i := (by omega); rw [e_, HX.out, ← aheadB_iff, HB.out])), hb8⟩
  case rest =>
    obtain ⟨i, A2, c2, rfl, hil, rfl, hR2, hlt, hnl, hbr⟩ := hcut
    obtain ⟨WX, hWX⟩ : ∃ W, W = wc := ⟨_, rfl⟩
    subst hWX
    obtain ⟨hbi, hah7, hfl⟩ := put_place l ⟨key, t, z44⟩ HS.out i hil hlt hnl
    have htk := fun (y : S46) hy (j : Nat) hj => take_put key v t l i hbi hil hfl y hy j hj
    obtain ⟨b, hb⟩ : ∃ b, bsF l ⟨key, t, z44⟩ = b := ⟨_, rfl⟩
    rw [hb] at hah7 hfl htk
    rw [HT.out] at htk
    have hi64 : i ≤ 1000 := by omega
    have HR2 := Lib.hid hR2
    have HBR := Lib.hid hbr
    have HAH7 := Lib.hid hah7
    have HFL := Lib.hid hfl
    have HTK := Lib.hid htk
    clear hR2 hlt hnl hbr hbi hah7 hfl htk hb HT
    go_upto_region 7 with fail
    go_cut [48] from 36 to 47 (fun v48 wc => v48 = .bool b ∧ Below WX.heap.size WX wc)
    case first =>
      by_cases hin : i < l.length
      rotate_left
      · have hnb : decide ((i : Int) < (l.length : Int)) = false := decide_eq_false (by omega)
        have hbf : b = false := by
          cases b with
          | false => rfl
          | true => exact absurd (HFL.out rfl) hin
        subst hbf
        refine wp_region_held_drew (S := fun w_ => Below WX.heap.size WX w_) (by kernel_rfl) (below_drew (Below.refl _ _)) (fun hS_ => ?_)
        have hS : Below WX.heap.size WX _ := hS_
        clear hS_
        change wpAnyH _ _ _ _ _ 13 #[false, false, false, false, false, false, false, false, false, false, false, false, false] _ _
        refine takeE 0 (some 36) #[true, false, false, false, false, false, false, false, false, false, false, false, false] hS ?_
        refine takeE 1 (some 37) #[true, true, false, false, false, false, false, false, false, false, false, false, false] hS ?_
        refine doD (i := 2) (ls2 := #[true, true, true, false, false, false, false, false, false, false, false, false, false]) (by kernel_rfl) rfl (by kernel_rfl) (by kernel_rfl) (fun K hK => ?_)
        go_simp
        refine hK.out _ _ ?_ (fun hS_ => ?_)
        · show Below WX.heap.size WX _
          exact hS
        clear hK K hS
        have hS : Below WX.heap.size WX _ := hS_
        clear hS_
        refine takeE 3 (some 39) #[true, true, true, true, false, false, false, false, false, false, false, false, false] hS ?_
        refine takeE 4 (some 40) #[true, true, true, true, true, false, false, false, false, false, false, false, false] hS ?_
        refine offE 5 (some 41) #[true, true, true, true, true, true, false, false, false, false, false, false, false] hS ?_
        refine offE 6 (some 42) #[true, true, true, true, true, true, true, false, false, false, false, false, false] hS ?_
        refine offE 7 (some 43) #[true, true, true, true, true, true, true, true, false, false, false, false, false] hS ?_
        refine offE 8 (some 44) #[true, true, true, true, true, true, true, true, true, false, false, false, false] hS ?_
        refine offE 9 (some 45) #[true, true, true, true, true, true, true, true, true, true, false, false, false] hS ?_
        refine offE 10 (some 46) #[true, true, true, true, true, true, true, true, true, true, true, false, false] hS ?_
        refine offE 11 (some 47) #[true, true, true, true, true, true, true, true, true, true, true, true, false] hS ?_
        refine takeE 12 (some 48) #[true, true, true, true, true, true, true, true, true, true, true, true, true] hS ?_
        refine wpAnyH_done (by kernel_rfl) ?_ _
        try go_simp
        go_wp2
        go_meet
        case rel => exact ⟨rfl, hS⟩
      · have d1 : decide ((i : Int) < (l.length : Int)) = true := decide_eq_true (by omega)
        have hbi : (0 : Int) ≤ (i : Int) ∧ (i : Int) < (l.length : Int) := by omega
        obtain ⟨ad, had, x0, x1, x2, x3, x4, x5, x6, x7, x8, x9, x10, x11⟩ := at_T46 (Kd.C_below HC1.out HBR.out) (i : Int) (by omega) (by omega)
        cases had
        rw [Int.toNat_natCast] at x0 x1 x2 x3 x4 x5 x6 x7 x8 x9 x10 x11
        have hah := HAH7.out hin
        obtain ⟨x, hx⟩ : ∃ x, rd_T46 l (i : Int) = x := ⟨_, rfl⟩
        rw [hx] at x0 x1 x2 x3 x4 x5 x6 x7 x8 x9 x10 x11 hah
        have hcall : ∀ w, Calls Try.prog 64 #[.agg #[.int .i64 key, .int .i64 t, .int .i64 0, .int .i64 0, .int .i64 0, .int .i64 0, .int .i64 0, .int .i64 0, .int .i64 0, .int .i64 0, .int .i64 0, .int .i64 0], cellV x] w fun e w' => e = .returned (.bool (!b)) ∧ Below w.heap.size w w' := by
          intro w
          rw [← hah]
          exact aheadR_calls ⟨key, t, z44⟩ x w
        have hyb := blk_below HBX.out HBR.out
        have HL0 := Lib.hid x0
        have HL1 := Lib.hid x1
        have HL2 := Lib.hid x2
        have HL3 := Lib.hid x3
        have HL4 := Lib.hid x4
        have HL5 := Lib.hid x5
        have HL6 := Lib.hid x6
        have HL7 := Lib.hid x7
        have HL8 := Lib.hid x8
        have HL9 := Lib.hid x9
        have HL10 := Lib.hid x10
        have HL11 := Lib.hid x11
        have HY0 := Lib.hid (show WX.cell? ⟨w.heap.size, 0, none⟩ = some (.int .i64 key) from (blk_cell hyb 0).trans rfl)
        have HY1 := Lib.hid (show WX.cell? ⟨w.heap.size, 1, none⟩ = some (.int .i64 t) from (blk_cell hyb 1).trans rfl)
        have HY2 := Lib.hid (show WX.cell? ⟨w.heap.size, 2, none⟩ = some (.int .i64 0) from (blk_cell hyb 2).trans rfl)
        have HY3 := Lib.hid (show WX.cell? ⟨w.heap.size, 3, none⟩ = some (.int .i64 0) from (blk_cell hyb 3).trans rfl)
        have HY4 := Lib.hid (show WX.cell? ⟨w.heap.size, 4, none⟩ = some (.int .i64 0) from (blk_cell hyb 4).trans rfl)
        have HY5 := Lib.hid (show WX.cell? ⟨w.heap.size, 5, none⟩ = some (.int .i64 0) from (blk_cell hyb 5).trans rfl)
        have HY6 := Lib.hid (show WX.cell? ⟨w.heap.size, 6, none⟩ = some (.int .i64 0) from (blk_cell hyb 6).trans rfl)
        have HY7 := Lib.hid (show WX.cell? ⟨w.heap.size, 7, none⟩ = some (.int .i64 0) from (blk_cell hyb 7).trans rfl)
        have HY8 := Lib.hid (show WX.cell? ⟨w.heap.size, 8, none⟩ = some (.int .i64 0) from (blk_cell hyb 8).trans rfl)
        have HY9 := Lib.hid (show WX.cell? ⟨w.heap.size, 9, none⟩ = some (.int .i64 0) from (blk_cell hyb 9).trans rfl)
        have HY10 := Lib.hid (show WX.cell? ⟨w.heap.size, 10, none⟩ = some (.int .i64 0) from (blk_cell hyb 10).trans rfl)
        have HY11 := Lib.hid (show WX.cell? ⟨w.heap.size, 11, none⟩ = some (.int .i64 0) from (blk_cell hyb 11).trans rfl)
        have HAH := Lib.hid hcall
        clear hah hx hyb hcall x0 x1 x2 x3 x4 x5 x6 x7 x8 x9 x10 x11
        refine wp_region_held_drew (S := fun w_ => Below WX.heap.size WX w_) (by kernel_rfl) (below_drew (Below.refl _ _)) (fun hS_ => ?_)
        have hS : Below WX.heap.size WX _ := hS_
        clear hS_
        change wpAnyH _ _ _ _ _ 13 #[false, false, false, false, false, false, false, false, false, false, false, false, false] _ _
        refine takeE 0 (some 36) #[true, false, false, false, false, false, false, false, false, false, false, false, false] hS ?_
        refine takeE 1 (some 37) #[true, true, false, false, false, false, false, false, false, false, false, false, false] hS ?_
        refine doD (i := 2) (ls2 := #[true, true, true, false, false, false, false, false, false, false, false, false, false]) (by kernel_rfl) rfl (by kernel_rfl) (by kernel_rfl) (fun K hK => ?_)
        go_simp
        refine hK.out _ _ ?_ (fun hS_ => ?_)
        · show Below WX.heap.size WX _
          exact hS
        clear hK K hS
        have hS : Below WX.heap.size WX _ := hS_
        clear hS_
        refine takeE 3 (some 39) #[true, true, true, true, false, false, false, false, false, false, false, false, false] hS ?_
        refine takeE 4 (some 40) #[true, true, true, true, true, false, false, false, false, false, false, false, false] hS ?_
        refine takeE 5 (some 41) #[true, true, true, true, true, true, false, false, false, false, false, false, false] hS ?_ (hy := fun w_ hS_ => by (replace hS_ : Below WX.heap.size WX w_ := hS_); have y0_ := below_cell hS_ HY0.out; have y1_ := below_cell hS_ HY1.out; have y2_ := below_cell hS_ HY2.out; have y3_ := below_cell hS_ HY3.out; have y4_ := below_cell hS_ HY4.out; have y5_ := below_cell hS_ HY5.out; have y6_ := below_cell hS_ HY6.out; have y7_ := below_cell hS_ HY7.out; have y8_ := below_cell hS_ HY8.out; have y9_ := below_cell hS_ HY9.out; have y10_ := below_cell hS_ HY10.out; have y11_ := below_cell hS_ HY11.out; go_simp <;> with_reducible rfl)
        refine takeE 6 (some 42) #[true, true, true, true, true, true, true, false, false, false, false, false, false] hS ?_
        refine takeE 7 (some 43) #[true, true, true, true, true, true, true, true, false, false, false, false, false] hS ?_
        refine takeE 8 (some 44) #[true, true, true, true, true, true, true, true, true, false, false, false, false] hS ?_
        refine takeE 9 (some 45) #[true, true, true, true, true, true, true, true, true, true, false, false, false] hS ?_ (hy := fun w_ hS_ => by (replace hS_ : Below WX.heap.size WX w_ := hS_); have x0_ := below_cell hS_ HL0.out; have x1_ := below_cell hS_ HL1.out; have x2_ := below_cell hS_ HL2.out; have x3_ := below_cell hS_ HL3.out; have x4_ := below_cell hS_ HL4.out; have x5_ := below_cell hS_ HL5.out; have x6_ := below_cell hS_ HL6.out; have x7_ := below_cell hS_ HL7.out; have x8_ := below_cell hS_ HL8.out; have x9_ := below_cell hS_ HL9.out; have x10_ := below_cell hS_ HL10.out; have x11_ := below_cell hS_ HL11.out; go_simp <;> with_reducible rfl)
        refine doD (i := 10) (ls2 := #[true, true, true, true, true, true, true, true, true, true, true, false, false]) (by kernel_rfl) rfl (by kernel_rfl) (by kernel_rfl) (fun K hK => ?_)
        go_simp
        go_wp2_with (first | (go_at_call 64; go_loud ((with_reducible refine (HAH.out _).mono ?_); rintro e w3 ⟨rfl, hb3⟩)))
        refine hK.out _ _ ?_ (fun hS_ => ?_)
        · show Below WX.heap.size WX _
          exact hS.trans (hb3.mono hS.size)
        clear hK K hS hb3
        have hS : Below WX.heap.size WX _ := hS_
        clear hS_
        refine takeE 11 (some 47) #[true, true, true, true, true, true, true, true, true, true, true, true, false] hS ?_
        refine takeE 12 (some 48) #[true, true, true, true, true, true, true, true, true, true, true, true, true] hS ?_
        refine wpAnyH_done (by kernel_rfl) ?_ _
        try go_simp
        go_wp2
        go_meet
        case rel => exact ⟨by first | rfl | (cases b <;> rfl), hS⟩
    case rest =>
      obtain ⟨rfl, hbw⟩ := hcut
      obtain ⟨y, hy⟩ : ∃ y : S46, y = if b = true then rd_T46 l (i : Int) else ⟨key, t, z44⟩ := ⟨_, rfl⟩
      obtain ⟨j, hj⟩ : ∃ j : Nat, j = if b = true then i + 1 else i := ⟨_, rfl⟩
      have htT := HTK.out y hy j hj
      have hjl : j ≤ l.length := by
        cases b with
        | true => rw [if_pos rfl] at hj; have := HFL.out rfl; omega
        | false => rw [if_neg (by decide)] at hj; omega
      have hyI : aggI y.f2 := by
        cases b with
        | true =>
          rw [if_pos rfl] at hy
          have hin := HFL.out rfl
          rw [hy, rd_get l i hin]
          exact HA.out _ (List.getElem_mem hin)
        | false =>
          rw [if_neg (by decide)] at hy
          rw [hy]
          exact aggI_zero
      have HTT := Lib.hid htT
      have HYI := Lib.hid hyI
      have HY := Lib.hid hy
      have HJ := Lib.hid hj
      have HRw := Lib.hid (Kd.R_below HR2.out hbw)
      have HBw := Lib.hid (HBR.out.trans (hbw.mono HBR.out.size))
      clear htT hyI hy hj hbw HTK HAH7 HA
      go_upto_if 48 with fail
      go_cut [11] from 49 to 54 (fun v11 wd => v11 = .int .i64 (j : Int) ∧ wd.heap[w.heap.size]? = some (.cells (c12 y).toArray 46 (0, 0)) ∧ Kd.R k46 46 wd W1.heap.size (fun _ => True) (.slice A2 i c2) (l.take i) ∧ Below w.heap.size w wd)
      case first =>
        have hxb := blk_below HBX.out HBw.out
        have hBW := HB1.out.trans (HBw.out.mono HB1.out.size)
        cases b with
        | false =>
          have hy := HY.out
          have hj := HJ.out
          rw [if_neg (by decide)] at hy hj
          subst hy hj
          have HXB := Lib.hid hxb
          have HBW := Lib.hid hBW
          clear hxb hBW
          go_wp2
          go_meet
          case rel => exact ⟨rfl, HXB.out, HRw.out, HBW.out⟩
        | true =>
          have hin := HFL.out rfl
          have hy := HY.out
          have hj := HJ.out
          rw [if_pos rfl] at hy hj
          obtain ⟨ad, had, x0, x1, x2, x3, x4, x5, x6, x7, x8, x9, x10, x11⟩ := at_T46 (Kd.C_below HC1.out HBw.out) (i : Int) (by omega) (by omega)
          cases had
          rw [Int.toNat_natCast, ← hy] at x0 x1 x2 x3 x4 x5 x6 x7 x8 x9 x10 x11
          have hwi : IntKind.i64.wrap ((i : Int) + 1) = (i : Int) + 1 := by rw [IntKind.wrap_i64]; omega
          have hbi : (0 : Int) ≤ (i : Int) ∧ (i : Int) < (l.length : Int) := by omega
          have z0 : wc.cell? ⟨w.heap.size, 0, none⟩ = some (.int .i64 key) := (blk_cell hxb 0).trans rfl
          have f0 : wc.frozen? ⟨w.heap.size, 0, none⟩ = false := blk_frozen hxb 0
          have z1 : wc.cell? ⟨w.heap.size, 1, none⟩ = some (.int .i64 t) := (blk_cell hxb 1).trans rfl
          have f1 : wc.frozen? ⟨w.heap.size, 1, none⟩ = false := blk_frozen hxb 1
          have z2 : wc.cell? ⟨w.heap.size, 2, none⟩ = some (.int .i64 0) := (blk_cell hxb 2).trans rfl
          have f2 : wc.frozen? ⟨w.heap.size, 2, none⟩ = false := blk_frozen hxb 2
          have z3 : wc.cell? ⟨w.heap.size, 3, none⟩ = some (.int .i64 0) := (blk_cell hxb 3).trans rfl
          have f3 : wc.frozen? ⟨w.heap.size, 3, none⟩ = false := blk_frozen hxb 3
          have z4 : wc.cell? ⟨w.heap.size, 4, none⟩ = some (.int .i64 0) := (blk_cell hxb 4).trans rfl
          have f4 : wc.frozen? ⟨w.heap.size, 4, none⟩ = false := blk_frozen hxb 4
          have z5 : wc.cell? ⟨w.heap.size, 5, none⟩ = some (.int .i64 0) := (blk_cell hxb 5).trans rfl
          have f5 : wc.frozen? ⟨w.heap.size, 5, none⟩ = false := blk_frozen hxb 5
          have z6 : wc.cell? ⟨w.heap.size, 6, none⟩ = some (.int .i64 0) := (blk_cell hxb 6).trans rfl
          have f6 : wc.frozen? ⟨w.heap.size, 6, none⟩ = false := blk_frozen hxb 6
          have z7 : wc.cell? ⟨w.heap.size, 7, none⟩ = some (.int .i64 0) := (blk_cell hxb 7).trans rfl
          have f7 : wc.frozen? ⟨w.heap.size, 7, none⟩ = false := blk_frozen hxb 7
          have z8 : wc.cell? ⟨w.heap.size, 8, none⟩ = some (.int .i64 0) := (blk_cell hxb 8).trans rfl
          have f8 : wc.frozen? ⟨w.heap.size, 8, none⟩ = false := blk_frozen hxb 8
          have z9 : wc.cell? ⟨w.heap.size, 9, none⟩ = some (.int .i64 0) := (blk_cell hxb 9).trans rfl
          have f9 : wc.frozen? ⟨w.heap.size, 9, none⟩ = false := blk_frozen hxb 9
          have z10 : wc.cell? ⟨w.heap.size, 10, none⟩ = some (.int .i64 0) := (blk_cell hxb 10).trans rfl
          have f10 : wc.frozen? ⟨w.heap.size, 10, none⟩ = false := blk_frozen hxb 10
          have z11 : wc.cell? ⟨w.heap.size, 11, none⟩ = some (.int .i64 0) := (blk_cell hxb 11).trans rfl
          have f11 : wc.frozen? ⟨w.heap.size, 11, none⟩ = false := blk_frozen hxb 11
          have HXB := Lib.hid hxb
          have HBW := Lib.hid hBW
          have hsz := HSZ.out
          clear hxb hBW hy
          go_wp2
          go_meet
          case rel => exact ⟨by rw [hj]; first | rfl | (congr 1), put12_heap HXB.out (.int .i64 y.f0) (.int .i64 y.f1) (.int .i64 y.f2.f0) (.int .i64 y.f2.f1) (.int .i64 y.f2.f2) (.int .i64 y.f2.f3) (.int .i64 y.f2.f4.f0) (.int .i64 y.f2.f4.f1) (.int .i64 y.f2.f4.f2) (.int .i64 y.f2.f4.f3) (.int .i64 y.f2.f5) (.int .i64 y.f2.f6), R_ok (R_other (R_base HRw.out (Nat.le_refl _) (Nat.le_refl _)) (fun k hk => put12_other (by omega) (.int .i64 y.f0) (.int .i64 y.f1) (.int .i64 y.f2.f0) (.int .i64 y.f2.f1) (.int .i64 y.f2.f2) (.int .i64 y.f2.f3) (.int .i64 y.f2.f4.f0) (.int .i64 y.f2.f4.f1) (.int .i64 y.f2.f4.f2) (.int .i64 y.f2.f4.f3) (.int .i64 y.f2.f5) (.int .i64 y.f2.f6))) (fun _ _ => trivial), put12_below HBW.out (Nat.le_refl _) (.int .i64 y.f0) (.int .i64 y.f1) (.int .i64 y.f2.f0) (.int .i64 y.f2.f1) (.int .i64 y.f2.f2) (.int .i64 y.f2.f3) (.int .i64 y.f2.f4.f0) (.int .i64 y.f2.f4.f1) (.int .i64 y.f2.f4.f2) (.int .i64 y.f2.f4.f3) (.int .i64 y.f2.f5) (.int .i64 y.f2.f6)⟩
      case rest =>
        obtain ⟨e11, hbox, hR, hbd⟩ := hcut
        subst e11
        have z2 : wc.cell? ⟨w.heap.size, 2, none⟩ = some (.int .i64 y.f2.f0) := (blk_cell hbox 2).trans rfl
        have z3 : wc.cell? ⟨w.heap.size, 3, none⟩ = some (.int .i64 y.f2.f1) := (blk_cell hbox 3).trans rfl
        have z4 : wc.cell? ⟨w.heap.size, 4, none⟩ = some (.int .i64 y.f2.f2) := (blk_cell hbox 4).trans rfl
        have z5 : wc.cell? ⟨w.heap.size, 5, none⟩ = some (.int .i64 y.f2.f3) := (blk_cell hbox 5).trans rfl
        have z6 : wc.cell? ⟨w.heap.size, 6, none⟩ = some (.int .i64 y.f2.f4.f0) := (blk_cell hbox 6).trans rfl
        have z7 : wc.cell? ⟨w.heap.size, 7, none⟩ = some (.int .i64 y.f2.f4.f1) := (blk_cell hbox 7).trans rfl
        have z8 : wc.cell? ⟨w.heap.size, 8, none⟩ = some (.int .i64 y.f2.f4.f2) := (blk_cell hbox 8).trans rfl
        have z9 : wc.cell? ⟨w.heap.size, 9, none⟩ = some (.int .i64 y.f2.f4.f3) := (blk_cell hbox 9).trans rfl
        have z10 : wc.cell? ⟨w.heap.size, 10, none⟩ = some (.int .i64 y.f2.f5) := (blk_cell hbox 10).trans rfl
        have z11 : wc.cell? ⟨w.heap.size, 11, none⟩ = some (.int .i64 y.f2.f6) := (blk_cell hbox 11).trans rfl
        have hadd := fun w => addR_calls y.f2 v HYI.out v0 v1 w
        obtain ⟨q, hq⟩ : ∃ q, addP y.f2 v = q := ⟨_, rfl⟩
        have htt := HTT.out
        rw [hq] at hadd htt
        have HADD := Lib.hid hadd
        have HTQ := Lib.hid htt
        have HBX2 := Lib.hid hbox
        have HRd := Lib.hid hR
        have HBd := Lib.hid hbd
        clear hadd hq htt hbox hR hbd HTT HYI HRw HBw HR2 HBR HFL
        go_upto_region 11 with (first | (go_at_call 51; go_loud ((with_reducible refine (HADD.out _).mono ?_); rintro e w5 ⟨rfl, hb5⟩; have hx5 := blk_below HBX2.out hb5; have z2 : w5.cell? ⟨w.heap.size, 2, none⟩ = some (.int .i64 y.f2.f0) := (blk_cell hx5 2).trans rfl; have z3 : w5.cell? ⟨w.heap.size, 3, none⟩ = some (.int .i64 y.f2.f1) := (blk_cell hx5 3).trans rfl; have z4 : w5.cell? ⟨w.heap.size, 4, none⟩ = some (.int .i64 y.f2.f2) := (blk_cell hx5 4).trans rfl; have z5 : w5.cell? ⟨w.heap.size, 5, none⟩ = some (.int .i64 y.f2.f3) := (blk_cell hx5 5).trans rfl; have z6 : w5.cell? ⟨w.heap.size, 6, none⟩ = some (.int .i64 y.f2.f4.f0) := (blk_cell hx5 6).trans rfl; have z7 : w5.cell? ⟨w.heap.size, 7, none⟩ = some (.int .i64 y.f2.f4.f1) := (blk_cell hx5 7).trans rfl; have z8 : w5.cell? ⟨w.heap.size, 8, none⟩ = some (.int .i64 y.f2.f4.f2) := (blk_cell hx5 8).trans rfl; have z9 : w5.cell? ⟨w.heap.size, 9, none⟩ = some (.int .i64 y.f2.f4.f3) := (blk_cell hx5 9).trans rfl; have z10 : w5.cell? ⟨w.heap.size, 10, none⟩ = some (.int .i64 y.f2.f5) := (blk_cell hx5 10).trans rfl; have z11 : w5.cell? ⟨w.heap.size, 11, none⟩ = some (.int .i64 y.f2.f6) := (blk_cell hx5 11).trans rfl; have f2 : w5.frozen? ⟨w.heap.size, 2, none⟩ = false := blk_frozen hx5 2; have f3 : w5.frozen? ⟨w.heap.size, 3, none⟩ = false := blk_frozen hx5 3; have f4 : w5.frozen? ⟨w.heap.size, 4, none⟩ = false := blk_frozen hx5 4; have f5 : w5.frozen? ⟨w.heap.size, 5, none⟩ = false := blk_frozen hx5 5; have f6 : w5.frozen? ⟨w.heap.size, 6, none⟩ = false := blk_frozen hx5 6; have f7 : w5.frozen? ⟨w.heap.size, 7, none⟩ = false := blk_frozen hx5 7; have f8 : w5.frozen? ⟨w.heap.size, 8, none⟩ = false := blk_frozen hx5 8; have f9 : w5.frozen? ⟨w.heap.size, 9, none⟩ = false := blk_frozen hx5 9; have f10 : w5.frozen? ⟨w.heap.size, 10, none⟩ = false := blk_frozen hx5 10; have f11 : w5.frozen? ⟨w.heap.size, 11, none⟩ = false := blk_frozen hx5 11; have HX5 := Lib.hid hx5; have HB5 := Lib.hid hb5; clear hx5 hb5)))
        change Code.wp _ _ _ _ (put10 w5 w.heap.size (.int .i64 q.f0) (.int .i64 q.f1) (.int .i64 q.f2) (.int .i64 q.f3) (.int .i64 q.f4.f0) (.int .i64 q.f4.f1) (.int .i64 q.f4.f2) (.int .i64 q.f4.f3) (.int .i64 q.f5) (.int .i64 q.f6))
        obtain ⟨W6, hW6⟩ : ∃ W, W = put10 w5 w.heap.size (.int .i64 q.f0) (.int .i64 q.f1) (.int .i64 q.f2) (.int .i64 q.f3) (.int .i64 q.f4.f0) (.int .i64 q.f4.f1) (.int .i64 q.f4.f2) (.int .i64 q.f4.f3) (.int .i64 q.f5) (.int .i64 q.f6) := ⟨_, rfl⟩
        rw [← hW6]
        have hx6 : W6.heap[w.heap.size]? = some (.cells (c12 ⟨y.f0, y.f1, q⟩).toArray 46 (0, 0)) := by rw [hW6]; exact put10_heap HX5.out (.int .i64 q.f0) (.int .i64 q.f1) (.int .i64 q.f2) (.int .i64 q.f3) (.int .i64 q.f4.f0) (.int .i64 q.f4.f1) (.int .i64 q.f4.f2) (.int .i64 q.f4.f3) (.int .i64 q.f5) (.int .i64 q.f6)
        have hb6 : Below w.heap.size w W6 := by rw [hW6]; exact put10_below (HBd.out.trans (HB5.out.mono HBd.out.size)) (Nat.le_refl _) (.int .i64 q.f0) (.int .i64 q.f1) (.int .i64 q.f2) (.int .i64 q.f3) (.int .i64 q.f4.f0) (.int .i64 q.f4.f1) (.int .i64 q.f4.f2) (.int .i64 q.f4.f3) (.int .i64 q.f5) (.int .i64 q.f6)
        have hR6 : Kd.R k46 46 W6 w.heap.size (fun _ => True) (.slice A2 i c2) (l.take i) := by
          have hsz := HSZ.out
          rw [hW6]
          exact R_ok (R_other (R_base (b := w.heap.size) (c := W1.heap.size) (Kd.R_below HRd.out HB5.out) (by omega) (Nat.le_refl _)) (fun k hk => put10_other (by omega) (.int .i64 q.f0) (.int .i64 q.f1) (.int .i64 q.f2) (.int .i64 q.f3) (.int .i64 q.f4.f0) (.int .i64 q.f4.f1) (.int .i64 q.f4.f2) (.int .i64 q.f4.f3) (.int .i64 q.f5) (.int .i64 q.f6))) (fun _ _ => trivial)
        clear hW6 z2 f2 z3 f3 z4 f4 z5 f5 z6 f6 z7 f7 z8 f8 z9 f9 z10 f10 z11 f11
        have z0 : W6.cell? ⟨w.heap.size, 0, none⟩ = some (.int .i64 y.f0) := (blk_cell hx6 0).trans rfl
        have z1 : W6.cell? ⟨w.heap.size, 1, none⟩ = some (.int .i64 y.f1) := (blk_cell hx6 1).trans rfl
        have z2 : W6.cell? ⟨w.heap.size, 2, none⟩ = some (.int .i64 q.f0) := (blk_cell hx6 2).trans rfl
        have z3 : W6.cell? ⟨w.heap.size, 3, none⟩ = some (.int .i64 q.f1) := (blk_cell hx6 3).trans rfl
        have z4 : W6.cell? ⟨w.heap.size, 4, none⟩ = some (.int .i64 q.f2) := (blk_cell hx6 4).trans rfl
        have z5 : W6.cell? ⟨w.heap.size, 5, none⟩ = some (.int .i64 q.f3) := (blk_cell hx6 5).trans rfl
        have z6 : W6.cell? ⟨w.heap.size, 6, none⟩ = some (.int .i64 q.f4.f0) := (blk_cell hx6 6).trans rfl
        have z7 : W6.cell? ⟨w.heap.size, 7, none⟩ = some (.int .i64 q.f4.f1) := (blk_cell hx6 7).trans rfl
        have z8 : W6.cell? ⟨w.heap.size, 8, none⟩ = some (.int .i64 q.f4.f2) := (blk_cell hx6 8).trans rfl
        have z9 : W6.cell? ⟨w.heap.size, 9, none⟩ = some (.int .i64 q.f4.f3) := (blk_cell hx6 9).trans rfl
        have z10 : W6.cell? ⟨w.heap.size, 10, none⟩ = some (.int .i64 q.f5) := (blk_cell hx6 10).trans rfl
        have z11 : W6.cell? ⟨w.heap.size, 11, none⟩ = some (.int .i64 q.f6) := (blk_cell hx6 11).trans rfl
        have hba := (Below.refl W6.heap.size W6).alloc (Nat.le_refl _) (.cells #[.int .i64 y.f0, .int .i64 y.f1, .int .i64 q.f0, .int .i64 q.f1, .int .i64 q.f2, .int .i64 q.f3, .int .i64 q.f4.f0, .int .i64 q.f4.f1, .int .i64 q.f4.f2, .int .i64 q.f4.f3, .int .i64 q.f5, .int .i64 q.f6] 46)
        have hC7 : k46.C (W6.alloc (.cells #[.int .i64 y.f0, .int .i64 y.f1, .int .i64 q.f0, .int .i64 q.f1, .int .i64 q.f2, .int .i64 q.f3, .int .i64 q.f4.f0, .int .i64 q.f4.f1, .int .i64 q.f4.f2, .int .i64 q.f4.f3, .int .i64 q.f5, .int .i64 q.f6] 46)) (some ⟨W6.heap.size, 0, none⟩) 1 [(⟨y.f0, y.f1, q⟩ : S46)] := one_C (heap_alloc_new _ _)
        have HC7 := Lib.hid hC7
        have HR7 := Lib.hid (Kd.R_below hR6 hba)
        have HB7 := Lib.hid (hb6.trans (hba.mono hb6.size))
        have htl : (l.take i).length ≤ 1000 := by rw [List.length_take]; omega
        have HTL := Lib.hid htl
        have hdl : (l.drop j).length = l.length - j := List.length_drop
        have HDL := Lib.hid hdl
        have hcc := fun (W : World) (hb : Below w.heap.size w W) => cut46_C (c := c) (Kd.C_below HCW.out hb) hjl hc
        have hbj : (0 : Int) ≤ (j : Int) ∧ (j : Int) ≤ (l.length : Int) ∧ (j : Int) ≤ (c : Int) ∧ (l.length : Int) ≤ (c : Int) := by omega
        rw [hdl] at hcc
        clear hx6 hb6 hR6 hba hC7 htl hdl HC1 HCW
        by_cases hcj : c = j
        · have hcj2 : ((c : Int) == (j : Int)) = true := beq_iff_eq.2 (by omega)
          rw [if_pos hcj] at hcc
          have HCC := Lib.hid hcc
          clear hcc
          go_wp2_with (first | ((with_reducible refine gate_builtin (b := .append) (xs := #[.tmp 60, .tmp 62]) rfl ?_); (try (refine gate_guard (by rfl) ?_; dsimp only)); at_builtin; refine Kd.R_append_rows k46 (w0 := w) w.heap.size rfl (.tmp 60) (.tmp 62) 26 46 (.agg #[(.int .i64 0), (.int .i64 0), (.int .i64 0), (.int .i64 0), (.int .i64 0), (.int .i64 0), (.int .i64 0), (.int .i64 0), (.int .i64 0), (.int .i64 0), (.int .i64 0), (.int .i64 0)]) 96 rfl Try.underlying26 info46 rfl (by decide) (by omega) (.slice A2 i c2) (l.take i) [(⟨y.f0, y.f1, q⟩ : S46)] _ _ _ (fun _ => True) (fun _ => False) rfl rfl HR7.out HC7.out (fun _ _ h => by obtain rfl := k46_open h; exact k46_mkM _ _ _ _) (fun _ h => h.elim) (fun _ _ => trivial) HB7.out HB7.out.size ?aL ?_; (case aL => have h_ := HTL.out; first | omega | (simp at h_ ⊢; omega)); intro v8 w8 hR8 hb8 hg8 hat8; obtain ⟨A3, c3, hv3, hc3, _⟩ := Kd.R_reads hR8; subst hv3; have hl8 : (l.take i ++ [(⟨y.f0, y.f1, q⟩ : S46)]).length ≤ 1001 := (by have h_ := HTL.out; simp at h_ ⊢; omega); have HL8 := Lib.hid hl8; obtain ⟨Z8, hZ8⟩ : ∃ Z, l.take i ++ [(⟨y.f0, y.f1, q⟩ : S46)] = Z := ⟨_, rfl⟩; rw [hZ8] at hR8 HL8; have HZ8 := Lib.hid hZ8; have HR8 := Lib.hid hR8; have HB8 := Lib.hid hb8; (try rw [hZ8]); clear hl8 hR8 hb8 hg8 hat8 hc3 hZ8) | ((with_reducible refine gate_builtin (b := .append) (xs := #[.tmp 64, .tmp 67]) rfl ?_); (try (refine gate_guard (by rfl) ?_; dsimp only)); at_builtin; refine Kd.R_append_rows k46 (w0 := w) w.heap.size rfl (.tmp 64) (.tmp 67) 26 46 (.agg #[(.int .i64 0), (.int .i64 0), (.int .i64 0), (.int .i64 0), (.int .i64 0), (.int .i64 0), (.int .i64 0), (.int .i64 0), (.int .i64 0), (.int .i64 0), (.int .i64 0), (.int .i64 0)]) 96 rfl Try.underlying26 info46 rfl (by decide) (by omega) (.slice A3 Z8.length c3) Z8 (l.drop j) _ _ _ (fun _ => True) (fun _ => False) rfl rfl HR8.out (HCC.out _ HB8.out) (fun _ _ h => by obtain rfl := k46_open h; exact k46_mkM _ _ _ _) (fun _ h => h.elim) (fun _ _ => trivial) HB8.out HB8.out.size ?aL ?_; (case aL => have h_ := HL8.out; have h2_ := HDL.out; omega); intro v9 w9 hR9 hb9 hg9 hat9; have HR9 := Lib.hid hR9; have HB9 := Lib.hid hb9; clear hR9 hb9 hg9 hat9))
          go_ret
          have hr9 := HR9.out
          rw [← HZ8.out, ← HTQ.out] at hr9
          exact ⟨_, rfl, hr9, HB9.out⟩
        · rw [if_neg hcj] at hcc
          have HCC := Lib.hid hcc
          clear hcc
          go_wp2_with (first | ((with_reducible refine gate_builtin (b := .append) (xs := #[.tmp 60, .tmp 62]) rfl ?_); (try (refine gate_guard (by rfl) ?_; dsimp only)); at_builtin; refine Kd.R_append_rows k46 (w0 := w) w.heap.size rfl (.tmp 60) (.tmp 62) 26 46 (.agg #[(.int .i64 0), (.int .i64 0), (.int .i64 0), (.int .i64 0), (.int .i64 0), (.int .i64 0), (.int .i64 0), (.int .i64 0), (.int .i64 0), (.int .i64 0), (.int .i64 0), (.int .i64 0)]) 96 rfl Try.underlying26 info46 rfl (by decide) (by omega) (.slice A2 i c2) (l.take i) [(⟨y.f0, y.f1, q⟩ : S46)] _ _ _ (fun _ => True) (fun _ => False) rfl rfl HR7.out HC7.out (fun _ _ h => by obtain rfl := k46_open h; exact k46_mkM _ _ _ _) (fun _ h => h.elim) (fun _ _ => trivial) HB7.out HB7.out.size ?aL ?_; (case aL => have h_ := HTL.out; first | omega | (simp at h_ ⊢; omega)); intro v8 w8 hR8 hb8 hg8 hat8; obtain ⟨A3, c3, hv3, hc3, _⟩ := Kd.R_reads hR8; subst hv3; have hl8 : (l.take i ++ [(⟨y.f0, y.f1, q⟩ : S46)]).length ≤ 1001 := (by have h_ := HTL.out; simp at h_ ⊢; omega); have HL8 := Lib.hid hl8; obtain ⟨Z8, hZ8⟩ : ∃ Z, l.take i ++ [(⟨y.f0, y.f1, q⟩ : S46)] = Z := ⟨_, rfl⟩; rw [hZ8] at hR8 HL8; have HZ8 := Lib.hid hZ8; have HR8 := Lib.hid hR8; have HB8 := Lib.hid hb8; (try rw [hZ8]); clear hl8 hR8 hb8 hg8 hat8 hc3 hZ8) | ((with_reducible refine gate_builtin (b := .append) (xs := #[.tmp 64, .tmp 67]) rfl ?_); (try (refine gate_guard (by rfl) ?_; dsimp only)); at_builtin; refine Kd.R_append_rows k46 (w0 := w) w.heap.size rfl (.tmp 64) (.tmp 67) 26 46 (.agg #[(.int .i64 0), (.int .i64 0), (.int .i64 0), (.int .i64 0), (.int .i64 0), (.int .i64 0), (.int .i64 0), (.int .i64 0), (.int .i64 0), (.int .i64 0), (.int .i64 0), (.int .i64 0)]) 96 rfl Try.underlying26 info46 rfl (by decide) (by omega) (.slice A3 Z8.length c3) Z8 (l.drop j) _ _ _ (fun _ => True) (fun _ => False) rfl rfl HR8.out (HCC.out _ HB8.out) (fun _ _ h => by obtain rfl := k46_open h; exact k46_mkM _ _ _ _) (fun _ h => h.elim) (fun _ _ => trivial) HB8.out HB8.out.size ?aL ?_; (case aL => have h_ := HL8.out; have h2_ := HDL.out; omega); intro v9 w9 hR9 hb9 hg9 hat9; have HR9 := Lib.hid hR9; have HB9 := Lib.hid hb9; clear hR9 hb9 hg9 hat9))
          go_ret
          have hr9 := HR9.out
          rw [← HZ8.out, ← HTQ.out] at hr9
          exact ⟨_, rfl, hr9, HB9.out⟩
end
end Go.Proofs.Ytgipepjpkmlmaaa.P
namespace Go.Proofs.Ytgipepjpkmlmaaa.P
open Go.RowKit Go.Proofs.YtgipepjpkmlmaaaW.PrintWords Go.Proofs.YtgipepjpkmlmaaaW.PrintLast Go.Proofs.YtgipepjpkmlmaaaW.PrintMore
set_option linter.unusedVariables false
set_option linter.unusedSimpArgs false
/-- A record with no long text. -/
def cutR (r : S50) : S50 := if 50 < r.f2.size then ⟨r.f0, r.f1, r.f2.extract 0 50⟩ else r
def someP (l : List S50) : List S50 := (l.take 150).map cutR
theorem take_C {w : World} {A : Option Addr} {l : List S50} (h : k50.C w A l.length l) (n : Nat) (hn : n ≤ l.length) : k50.C w A n (l.take n) := by
  refine ⟨by rw [List.length_take]; omega, by have := h.2.1; omega, fun h0 => ?_⟩
  obtain ⟨ad, hA, hh⟩ := h.2.2 (by omega)
  refine ⟨ad, hA, fun j p hj => hh j p ?_⟩
  rw [List.getElem?_take] at hj
  split at hj
  · exact hj
  · cases hj
set_option maxHeartbeats 8000000 in
set_option maxRecDepth 100000 in
theorem some_calls (A : Option Addr) (c : Nat) (l : List S50) (w : World) (hr : k50.C w A l.length l) (hc : l.length ≤ c) :
    Calls Try.prog 14 #[.slice A l.length c] w fun e w' => ∃ v, e = .returned v ∧ Kd.R k50 50 w' w.heap.size (fun _ => True) v (someP l) ∧ Below w.heap.size w w' := by
  have hmx : (l.length : Int) ≤ 9223372036854775807 := by
    have := hr.2.1
    omega
  obtain ⟨L, hL⟩ : ∃ L, l.take 150 = L := ⟨_, rfl⟩
  have hLl : L.length ≤ 150 := by rw [← hL, List.length_take]; omega
  have hLc : L.length ≤ c := by rw [← hL, List.length_take]; omega
  have hLC : k50.C w A L.length L := by
    rw [← hL, List.length_take]
    by_cases h : l.length ≤ 150
    · rw [Nat.min_eq_right h, List.take_of_length_le h]; exact hr
    · rw [Nat.min_eq_left (by omega)]; exact take_C hr 150 (by omega)
  obtain ⟨F, hF⟩ : ∃ F, someP l = F := ⟨_, rfl⟩
  rw [hF]
  have hF2 : L.map cutR = F := by rw [← hL]; exact hF
  have HF := Lib.hid hF2
  have HLC := Lib.hid hLC
  clear hF hF2 hLC hr
  go_enter Try.func14, Try.ntmps14
  go_upto_if 8 with fail
  go_cut [0] from 6 to 10 (fun v0 wc => v0 = .slice A L.length c ∧ wc = w)
  case first =>
    by_cases h : 150 < l.length
    · have d : decide ((150 : Int) < (l.length : Int)) = true := decide_eq_true (by omega)
      have e : L.length = 150 := by rw [← hL, List.length_take]; omega
      have hb : (0 : Int) ≤ 150 ∧ (150 : Int) ≤ (c : Int) := by omega
      have HE := Lib.hid e
      clear e hL
      go_wp2
      go_meet
      case rel => exact ⟨by rw [HE.out], rfl⟩
    · have d : decide ((150 : Int) < (l.length : Int)) = false := decide_eq_false (by omega)
      have e : L.length = l.length := by rw [← hL, List.length_take]; omega
      have HE := Lib.hid e
      clear e hL
      go_wp2
      go_meet
      case rel => exact ⟨by rw [HE.out], rfl⟩
  case rest =>
    obtain ⟨rfl, rfl⟩ := hcut
    clear hL hmx hc
    go_wp2
    go_loopg [3, 4] L.length (fun kq v3 v4 wr => ∃ (i : Nat) (all : List S50), v4 = .int .i64 (i : Int) ∧ i ≤ L.length ∧ L.length - i ≤ kq ∧ all ++ (L.drop i).map cutR = F ∧ all.length = i ∧ Kd.R k50 50 wr wc.heap.size (fun _ => True) v3 all ∧ Below wc.heap.size wc wr)
    case atStart => exact ⟨0, [], rfl, Nat.zero_le _, by omega, by simpa using HF.out, rfl, Kd.R_nil _ _ _ _ _, Below.refl _ _⟩
    case round =>
      obtain ⟨i, all, rfl, hil, hik, hmap, hal, hR9, hbw⟩ := hrel
      by_cases hlt : i < L.length
      rotate_left
      · have d1 : decide ((i : Int) < (L.length : Int)) = false := decide_eq_false (by omega)
        rw [List.drop_eq_nil_of_le (by omega)] at hmap
        have HO := Lib.hid hmap
        have HR := Lib.hid hR9
        clear hmap hR9
        go_wp2
        go_ret
        refine ⟨_, rfl, ?_, hbw⟩
        have h1 := HO.out
        have h2 := HR.out
        rw [List.map_nil, List.append_nil] at h1
        rw [← h1]
        exact h2
      have d1 : decide ((i : Int) < (L.length : Int)) = true := decide_eq_true (by omega)
      obtain ⟨ad, had, x0, x1, x2⟩ := at_T50 (Kd.C_below HLC.out hbw) (i : Int) (by omega) (by omega)
      cases had
      rw [Int.toNat_natCast] at x0 x1 x2
      have hrd : rd_T50 L (i : Int) = L[i] := by simp [rd_T50, List.getD, List.getElem?_eq_getElem hlt]
      rw [List.drop_eq_getElem_cons hlt, ← hrd, List.map_cons] at hmap
      obtain ⟨x, hx⟩ : ∃ x, rd_T50 L (i : Int) = x := ⟨_, rfl⟩
      rw [hx] at x0 x1 x2 hmap
      clear hx hrd
      cases gk with
      | zero => omega
      | succ gk =>
      obtain ⟨A9, c9, rfl, hc9, _⟩ := Kd.R_reads hR9
      have hwi : IntKind.i64.wrap ((i : Int) + 1) = (i : Int) + 1 := by rw [IntKind.wrap_i64]; omega
      by_cases hz : 50 < x.f2.size
      · have d2 : decide ((50 : Int) < (x.f2.size : Int)) = true := decide_eq_true (by omega)
        have hb5 : (0 : Int) ≤ 50 ∧ (50 : Int) ≤ (x.f2.size : Int) := by omega
        have hcx : cutR x = ⟨x.f0, x.f1, x.f2.extract 0 50⟩ := if_pos hz
        rw [hcx, show ∀ (a : S50) (b : List S50), all ++ a :: b = (all ++ [a]) ++ b from fun a b => by simp] at hmap
        clear hz hcx
        have hb1 : Below wr.heap.size wr ((wr.alloc (.cells #[.int .i64 x.f0, .int .i64 x.f1, .string (x.f2.extract 0 50)] 50)).alloc (.cells #[.int .i64 x.f0, .int .i64 x.f1, .string (x.f2.extract 0 50)] 50)) := ((Below.refl _ _).alloc (Nat.le_refl _) _).alloc (by simp) _
        have hC1 : k50.C ((wr.alloc (.cells #[.int .i64 x.f0, .int .i64 x.f1, .string (x.f2.extract 0 50)] 50)).alloc (.cells #[.int .i64 x.f0, .int .i64 x.f1, .string (x.f2.extract 0 50)] 50)) (some ⟨wr.heap.size + 1, 0, none⟩) 1 [(⟨x.f0, x.f1, (x.f2.extract 0 50)⟩ : S50)] := recs_C [(⟨x.f0, x.f1, (x.f2.extract 0 50)⟩ : S50)] (by simp) (by have h0 := heap_alloc_new (wr.alloc (.cells #[.int .i64 x.f0, .int .i64 x.f1, .string (x.f2.extract 0 50)] 50)) (.cells #[.int .i64 x.f0, .int .i64 x.f1, .string (x.f2.extract 0 50)] 50); simpa using h0)
        have hR1 := Kd.R_below hR9 hb1
        have hB1 : Below wc.heap.size wc ((wr.alloc (.cells #[.int .i64 x.f0, .int .i64 x.f1, .string (x.f2.extract 0 50)] 50)).alloc (.cells #[.int .i64 x.f0, .int .i64 x.f1, .string (x.f2.extract 0 50)] 50)) := hbw.trans (hb1.mono hbw.size)
        have HR1 := Lib.hid hR1
        have HB1 := Lib.hid hB1
        have HC1 := Lib.hid hC1
        have HO := Lib.hid hmap
        clear hb1 hC1 hR1 hB1 hbw hR9 hmap
        go_wp2_with (first | ((with_reducible refine gate_builtin (b := .append) (xs := #[.tmp 29, .tmp 31]) rfl ?_); (try (refine gate_guard (by rfl) ?_; dsimp only)); at_builtin; refine Kd.R_append_rows k50 (w0 := wc) wc.heap.size rfl (.tmp 29) (.tmp 31) 24 50 (.agg #[(.int .i64 0), (.int .i64 0), (.string ⟨#[]⟩)]) 32 rfl Try.underlying24 info50 rfl (by decide) (by omega) (.slice A9 all.length c9) all [(⟨x.f0, x.f1, (x.f2.extract 0 50)⟩ : S50)] _ _ _ (fun _ => True) (fun _ => False) rfl rfl HR1.out HC1.out (fun _ _ h => by obtain rfl := k50_open h; exact k50_mkM _ _ _ _) (fun _ h => h.elim) (fun _ _ => trivial) HB1.out HB1.out.size ?aL ?_; (case aL => omega); intro v8 w8 hR8 hb8 hg8 hat8))
        go_roundg gk
        case measure => omega
        case rel => exact ⟨i + 1, all ++ [(⟨x.f0, x.f1, (x.f2.extract 0 50)⟩ : S50)], by first | rfl | (congr 1), by omega, by omega, HO.out, by simp; omega, hR8, hb8⟩
      · have d2 : decide ((50 : Int) < (x.f2.size : Int)) = false := decide_eq_false (by omega)
        have hcx : cutR x = ⟨x.f0, x.f1, x.f2⟩ := if_neg hz
        rw [hcx, show ∀ (a : S50) (b : List S50), all ++ a :: b = (all ++ [a]) ++ b from fun a b => by simp] at hmap
        clear hz hcx
        have hb1 : Below wr.heap.size wr ((wr.alloc (.cells #[.int .i64 x.f0, .int .i64 x.f1, .string x.f2] 50)).alloc (.cells #[.int .i64 x.f0, .int .i64 x.f1, .string x.f2] 50)) := ((Below.refl _ _).alloc (Nat.le_refl _) _).alloc (by simp) _
        have hC1 : k50.C ((wr.alloc (.cells #[.int .i64 x.f0, .int .i64 x.f1, .string x.f2] 50)).alloc (.cells #[.int .i64 x.f0, .int .i64 x.f1, .string x.f2] 50)) (some ⟨wr.heap.size + 1, 0, none⟩) 1 [(⟨x.f0, x.f1, x.f2⟩ : S50)] := recs_C [(⟨x.f0, x.f1, x.f2⟩ : S50)] (by simp) (by have h0 := heap_alloc_new (wr.alloc (.cells #[.int .i64 x.f0, .int .i64 x.f1, .string x.f2] 50)) (.cells #[.int .i64 x.f0, .int .i64 x.f1, .string x.f2] 50); simpa using h0)
        have hR1 := Kd.R_below hR9 hb1
        have hB1 : Below wc.heap.size wc ((wr.alloc (.cells #[.int .i64 x.f0, .int .i64 x.f1, .string x.f2] 50)).alloc (.cells #[.int .i64 x.f0, .int .i64 x.f1, .string x.f2] 50)) := hbw.trans (hb1.mono hbw.size)
        have HR1 := Lib.hid hR1
        have HB1 := Lib.hid hB1
        have HC1 := Lib.hid hC1
        have HO := Lib.hid hmap
        clear hb1 hC1 hR1 hB1 hbw hR9 hmap
        go_wp2_with (first | ((with_reducible refine gate_builtin (b := .append) (xs := #[.tmp 29, .tmp 31]) rfl ?_); (try (refine gate_guard (by rfl) ?_; dsimp only)); at_builtin; refine Kd.R_append_rows k50 (w0 := wc) wc.heap.size rfl (.tmp 29) (.tmp 31) 24 50 (.agg #[(.int .i64 0), (.int .i64 0), (.string ⟨#[]⟩)]) 32 rfl Try.underlying24 info50 rfl (by decide) (by omega) (.slice A9 all.length c9) all [(⟨x.f0, x.f1, x.f2⟩ : S50)] _ _ _ (fun _ => True) (fun _ => False) rfl rfl HR1.out HC1.out (fun _ _ h => by obtain rfl := k50_open h; exact k50_mkM _ _ _ _) (fun _ h => h.elim) (fun _ _ => trivial) HB1.out HB1.out.size ?aL ?_; (case aL => omega); intro v8 w8 hR8 hb8 hg8 hat8))
        go_roundg gk
        case measure => omega
        case rel => exact ⟨i + 1, all ++ [(⟨x.f0, x.f1, x.f2⟩ : S50)], by first | rfl | (congr 1), by omega, by omega, HO.out, by simp; omega, hR8, hb8⟩
end Go.Proofs.Ytgipepjpkmlmaaa.P
namespace Go.Proofs.Ytgipepjpkmlmaaa.P
open Go.RowKit Go.Proofs.YtgipepjpkmlmaaaW.PrintWords Go.Proofs.YtgipepjpkmlmaaaW.PrintLast Go.Proofs.YtgipepjpkmlmaaaW.PrintMore
attribute [local go_sem] max2_int min2_int max_two min_two max_three min_three max_four min_four   -- for this text's walks alone
set_option linter.unusedVariables false
set_option linter.unusedSimpArgs false
def headgateref16_Value.f (k : Nat) (a0_0 : Int) (a0_1 : Int) (a0_2 : ByteArray) : Option (Int × Bool) := (headgateref01_Take.f k a0_2).bind fun bt188 => (if bt188.2.2 = 0 then (some (bt188.1, (bt188.2.1.toList == ([] : List UInt8)))) else (some (bt188.1, false)))
theorem headgateref16_Value.mono : ∀ a0 a1 a2 k, LeO (headgateref16_Value.f k a0 a1 a2) (headgateref16_Value.f (k + 1) a0 a1 a2) := by
  intro a0 a1 a2 k
  unfold headgateref16_Value.f
  repeat' first
      | (with_reducible exact headgateref01_Take.mono _ _)
      | (with_reducible exact LeO.refl _)
      | (with_reducible exact LeO.none _)
      | (with_reducible refine LeO.ite ?_ ?_)
      | (with_reducible refine LeO.bind ?_ (fun _ => ?_))
      | exact headgateref01_Take.mono _ _
      | exact LeO.none _
      | refine LeO.ite ?_ ?_
      | refine LeO.bind ?_ (fun _ => ?_)
set_option maxHeartbeats 8000000 in
set_option maxRecDepth 100000 in
theorem headgateref16_Value.calls (k : Nat) (a0_0 : Int) (a0_1 : Int) (a0_2 : ByteArray) (r1 : Int) (r2 : Bool) (w : World) (h : headgateref16_Value.f k a0_0 a0_1 a0_2 = some (r1, r2)) :
    Calls Try.prog 23 #[.agg #[.int .i64 a0_0, .int .i64 a0_1, .string a0_2]] w fun e w' => e = .returned (.tuple #[.int .i64 r1, .bool r2]) ∧ Below w.heap.size w w' := by
  have hu50 := Try.underlying50
  have HB := Aside0.mk (Below.refl w.heap.size w)
  have H : ((headgateref01_Take.f k a0_2).bind fun bt188 => (if bt188.2.2 = 0 then (some (bt188.1, (bt188.2.1.toList == ([] : List UInt8)))) else (some (bt188.1, false)))) = some (r1, r2) := h
  clear h
  replace H := Option.bind_eq_some_iff.mp H
  obtain ⟨⟨t188, t189, t190⟩, A20, H⟩ := H
  replace H : (if t190 = 0 then (some (t188, (t189.toList == ([] : List UInt8)))) else (some (t188, false))) = some (r1, r2) := H
  have A2 := Aside0.mk A20
  clear A20
  by_cases c3 : t190 = 0
  · rw [if_pos c3] at H
    have c3b0 : (t190 == 0) = true := beq_iff_eq.mpr c3
    have c3b1 : (t190 != 0) = false := bne_eq_false_iff_eq.mpr c3
    clear c3
    simp only [Option.some.injEq, Prod.mk.injEq] at H
    obtain ⟨rfl, rfl⟩ := H
    go_enter Try.func23, Try.ntmps23
    go_wp2_with (first | ((with_reducible refine gate_dst (N := 1) rfl ?_); refine box_event ?hg (N := 1) ?hd (cs := #[.int .i64 a0_0, .int .i64 a0_1, .string a0_2]) (t := 50) ?hr ?_; (case hd => rfl); (case hg => rfl); (case hr => first | (go_simp; done) | (go_simp; rfl)); intro gb187 hg w4 hbox hb; have n0_ := Aside0.mk (below_step (by repeat (first | (with_reducible first | exact HB.out | apply below_alloc | apply pw_below_drewN | apply below_drew1) | exact HB.out)) hb); have n1_ := Aside0.mk (hbox); have n2_ := Aside0.mk ((by rw [hg]; exact (below_size (by repeat (first | (with_reducible first | exact HB.out | apply below_alloc | apply pw_below_drewN | apply below_drew1) | exact HB.out))) : w.heap.size ≤ gb187)); have n3_ := Aside0.mk ((by rw [hg]; exact (below_size (by repeat (first | (with_reducible first | exact HB.out | apply below_alloc | apply pw_below_drewN | apply below_drew1) | exact HB.out))) : w.heap.size ≤ gb187)); clear HB; have HB := n0_; have BK187 := n1_; have GW187 := n2_; have GE187 := n3_; clear n0_ n1_ n2_ n3_; clear hb hbox hg; have hcz5_0 : w4.cell? ⟨gb187, 0, none⟩ = some (.int .i64 a0_0) := (blk_cell BK187.out 0).trans rfl; have hcz5_1 : w4.cell? ⟨gb187, 1, none⟩ = some (.int .i64 a0_1) := (blk_cell BK187.out 1).trans rfl; have hcz5_2 : w4.cell? ⟨gb187, 2, none⟩ = some (.string a0_2) := (blk_cell BK187.out 2).trans rfl; have hfz5_0 := blk_frozen BK187.out 0; have hfz5_1 := blk_frozen BK187.out 1; have hfz5_2 := blk_frozen BK187.out 2) | ((with_reducible refine gate_callee (f := 49) rfl ?_); refine goesL_ (some 10) rfl rfl Try.func49 (by kernel_rfl) rfl #[.string a0_2] rfl (by (try simp only [List.map_toArray, List.map_cons, List.map_nil]); first | done | rfl | (simp only [List.length_drop, List.length_take]; rfl)) ?_; (with_reducible refine (headgateref01_Take.calls k a0_2 t188 t189 t190 _ A2.out).mono ?_); rintro e w6 ⟨rfl, hb⟩; refine ⟨_, rfl, ?_⟩; have n0_ := Aside0.mk (blk_below (g := gb187) (o := .cells #[.int .i64 a0_0, .int .i64 a0_1, .string a0_2] 50 (0, 0)) (by (with_reducible repeat (first | refine blk_drewN ?_ _ | refine blk_drew ?_ | refine blk_alloc ?_ _)); exact BK187.out) hb); have n1_ := Aside0.mk (below_step (by repeat (first | (with_reducible first | exact HB.out | apply below_alloc | apply pw_below_drewN | apply below_drew1 | refine below_set ?_ GE187.out) | exact HB.out)) hb); clear BK187; clear HB; have BK187 := n0_; have HB := n1_; clear n0_ n1_; (try clear hb); (try clear hb2); (try clear hk); (try clear hi)))
    go_ret2
    exact ⟨by first | rfl | (simp [errW_none, errW_some] <;> rfl) | (simp [*, errW_none, errW_some] <;> rfl), by repeat (first | (with_reducible first | exact HB.out | apply below_alloc | apply pw_below_drewN | apply below_drew1 | refine below_set ?_ GE187.out) | exact HB.out)⟩
  · rw [if_neg c3] at H
    have c3b0 : (t190 == 0) = false := beq_eq_false_iff_ne.mpr c3
    have c3b1 : (t190 != 0) = true := bne_iff_ne.mpr c3
    simp only [Option.some.injEq, Prod.mk.injEq] at H
    obtain ⟨rfl, rfl⟩ := H
    go_enter Try.func23, Try.ntmps23
    go_wp2_with (first | ((with_reducible refine gate_dst (N := 1) rfl ?_); refine box_event ?hg (N := 1) ?hd (cs := #[.int .i64 a0_0, .int .i64 a0_1, .string a0_2]) (t := 50) ?hr ?_; (case hd => rfl); (case hg => rfl); (case hr => first | (go_simp; done) | (go_simp; rfl)); intro gb187 hg w7 hbox hb; have n0_ := Aside0.mk (below_step (by repeat (first | (with_reducible first | exact HB.out | apply below_alloc | apply pw_below_drewN | apply below_drew1) | exact HB.out)) hb); have n1_ := Aside0.mk (hbox); have n2_ := Aside0.mk ((by rw [hg]; exact (below_size (by repeat (first | (with_reducible first | exact HB.out | apply below_alloc | apply pw_below_drewN | apply below_drew1) | exact HB.out))) : w.heap.size ≤ gb187)); have n3_ := Aside0.mk ((by rw [hg]; exact (below_size (by repeat (first | (with_reducible first | exact HB.out | apply below_alloc | apply pw_below_drewN | apply below_drew1) | exact HB.out))) : w.heap.size ≤ gb187)); clear HB; have HB := n0_; have BK187 := n1_; have GW187 := n2_; have GE187 := n3_; clear n0_ n1_ n2_ n3_; clear hb hbox hg; have hcz8_0 : w7.cell? ⟨gb187, 0, none⟩ = some (.int .i64 a0_0) := (blk_cell BK187.out 0).trans rfl; have hcz8_1 : w7.cell? ⟨gb187, 1, none⟩ = some (.int .i64 a0_1) := (blk_cell BK187.out 1).trans rfl; have hcz8_2 : w7.cell? ⟨gb187, 2, none⟩ = some (.string a0_2) := (blk_cell BK187.out 2).trans rfl; have hfz8_0 := blk_frozen BK187.out 0; have hfz8_1 := blk_frozen BK187.out 1; have hfz8_2 := blk_frozen BK187.out 2) | ((with_reducible refine gate_callee (f := 49) rfl ?_); refine goesL_ (some 10) rfl rfl Try.func49 (by kernel_rfl) rfl #[.string a0_2] rfl (by (try simp only [List.map_toArray, List.map_cons, List.map_nil]); first | done | rfl | (simp only [List.length_drop, List.length_take]; rfl)) ?_; (with_reducible refine (headgateref01_Take.calls k a0_2 t188 t189 t190 _ A2.out).mono ?_); rintro e w9 ⟨rfl, hb⟩; refine ⟨_, rfl, ?_⟩; have n0_ := Aside0.mk (blk_below (g := gb187) (o := .cells #[.int .i64 a0_0, .int .i64 a0_1, .string a0_2] 50 (0, 0)) (by (with_reducible repeat (first | refine blk_drewN ?_ _ | refine blk_drew ?_ | refine blk_alloc ?_ _)); exact BK187.out) hb); have n1_ := Aside0.mk (below_step (by repeat (first | (with_reducible first | exact HB.out | apply below_alloc | apply pw_below_drewN | apply below_drew1 | refine below_set ?_ GE187.out) | exact HB.out)) hb); clear BK187; clear HB; have BK187 := n0_; have HB := n1_; clear n0_ n1_; (try clear hb); (try clear hb2); (try clear hk); (try clear hi)))
    go_ret2
    exact ⟨by first | rfl | (simp [errW_none, errW_some] <;> rfl) | (simp [*, errW_none, errW_some] <;> rfl), by repeat (first | (with_reducible first | exact HB.out | apply below_alloc | apply pw_below_drewN | apply below_drew1 | refine below_set ?_ GE187.out) | exact HB.out)⟩
end Go.Proofs.Ytgipepjpkmlmaaa.P
namespace Go.Proofs.Ytgipepjpkmlmaaa.P
open Go.RowKit Go.Proofs.YtgipepjpkmlmaaaW.PrintWords Go.Proofs.YtgipepjpkmlmaaaW.PrintLast Go.Proofs.YtgipepjpkmlmaaaW.PrintMore
set_option linter.unusedVariables false
set_option linter.unusedSimpArgs false
/-- The sevens of a number, the lowest first. -/
def encI : Nat → Int → List Int
  | 0, u => [u]
  | f + 1, u => if u > 127 then (u % 128 + 128) :: encI f (u / 128) else [u]
def decI : List Int → Int
  | [] => 0
  | b :: t => b % 128 + 128 * decI t
theorem decI_nonneg : ∀ l, 0 ≤ decI l
  | [] => Int.le_refl _
  | b :: t => by have := decI_nonneg t; unfold decI; omega
theorem dec_enc : ∀ f u, 0 ≤ u → u < 128 ^ (f + 1) → decI (encI f u) = u
  | 0, u, h0, h1 => by simp [encI, decI]; omega
  | f + 1, u, h0, h1 => by
    unfold encI
    split
    · have := dec_enc f (u / 128) (by omega) (by rw [Int.pow_succ] at h1; omega)
      unfold decI
      omega
    · simp [decI]
      omega
theorem enc_ne : ∀ f u, encI f u ≠ []
  | 0, u => by simp [encI]
  | f + 1, u => by unfold encI; split <;> simp
theorem enc_last : ∀ f u, 1 ≤ u → ∀ h, (encI f u).getLast h ≠ 0
  | 0, u, h1, h => by simp [encI]; omega
  | f + 1, u, h1, h => by
    by_cases c : u > 127
    · have e : encI (f + 1) u = (u % 128 + 128) :: encI f (u / 128) := by rw [encI, if_pos c]
      have h2 := enc_last f (u / 128) (by omega) (enc_ne _ _)
      simp only [e]
      rw [List.getLast_cons (enc_ne _ _)]
      exact h2
    · have e : encI (f + 1) u = [u] := by rw [encI, if_neg c]
      simp only [e, List.getLast_singleton]
      omega
theorem dec_snoc : ∀ (l : List Int) (b : Int), decI (l ++ [b]) = decI l + 128 ^ l.length * (b % 128)
  | [], b => by simp [decI]
  | a :: t, b => by
    have := dec_snoc t b
    simp only [List.cons_append, decI, this, List.length_cons, Int.pow_succ]
    rw [Int.mul_add, Int.add_assoc, ← Int.mul_assoc, Int.mul_comm 128 (128 ^ t.length)]
theorem dec_lt : ∀ l : List Int, decI l < 128 ^ l.length
  | [] => by simp [decI]
  | a :: t => by
    have := dec_lt t
    unfold decI
    rw [List.length_cons, Int.pow_succ]
    omega
theorem enc_dec : ∀ (l : List Int) (b : Int) (f : Nat), (∀ x ∈ l, 128 ≤ x ∧ x ≤ 255) → 0 ≤ b → b < 128 → (l ≠ [] → b ≠ 0) → l.length ≤ f → encI f (decI (l ++ [b])) = l ++ [b]
  | [], b, f, hw, h0, h1, hc, hf => by
    have e : decI ([] ++ [b]) = b := by simp [decI]; omega
    rw [e]
    cases f with
    | zero => rfl
    | succ f => rw [encI, if_neg (by omega)]; rfl
  | a :: t, b, f, hw, h0, h1, hc, hf => by
    obtain ⟨f, rfl⟩ : ∃ g, f = g + 1 := ⟨f - 1, by simp at hf; omega⟩
    have ha := hw a (by simp)
    have ih := enc_dec t b f (fun x hx => hw x (by simp [hx])) h0 h1 (fun _ => hc (by simp)) (by simp at hf; omega)
    have hpos : 1 ≤ decI (t ++ [b]) := by
      rw [dec_snoc]
      have := decI_nonneg t
      have hb : 1 ≤ b % 128 := by have := hc (by simp); omega
      have hp : (0 : Int) < 128 ^ t.length := Int.pow_pos (by omega)
      have : (128 : Int) ^ t.length * 1 ≤ 128 ^ t.length * (b % 128) := Int.mul_le_mul_of_nonneg_left hb (by omega)
      omega
    have e : decI (a :: t ++ [b]) = a % 128 + 128 * decI (t ++ [b]) := rfl
    rw [e, encI, if_pos (by omega), show (a % 128 + 128 * decI (t ++ [b])) % 128 + 128 = a by omega, show (a % 128 + 128 * decI (t ++ [b])) / 128 = decI (t ++ [b]) by omega, ih]
    rfl
theorem enc_iff (l : List Int) (b : Int) (hw : ∀ x ∈ l, 128 ≤ x ∧ x ≤ 255) (h0 : 0 ≤ b) (h1 : b < 128) (hl : l.length ≤ 9) :
    encI 9 (decI (l ++ [b]) % 18446744073709551616) = l ++ [b] ↔ ¬((l ≠ [] ∧ b = 0) ∨ (l.length = 9 ∧ 1 < b)) := by
  have hn := decI_nonneg (l ++ [b])
  have hD : decI (l ++ [b]) < 18446744073709551616 ↔ ¬(l.length = 9 ∧ 1 < b) := by
    have h3 := dec_snoc l b
    have h4 := dec_lt l
    have h5 := decI_nonneg l
    constructor
    · rintro h ⟨h6, h7⟩
      rw [h6] at h3 h4
      omega
    · intro h
      by_cases h6 : l.length = 9
      · rw [h6] at h3 h4
        omega
      · have h7 := dec_lt (l ++ [b])
        have h9 : ∀ n : Fin 10, (128 : Int) ^ n.val ≤ 128 ^ 9 := by decide
        have h8 : (128 : Int) ^ (l ++ [b]).length ≤ 128 ^ 9 := h9 ⟨(l ++ [b]).length, by simp; omega⟩
        omega
  constructor
  · intro h
    have h2 := dec_enc 9 (decI (l ++ [b]) % 18446744073709551616) (by omega) (by omega)
    rw [h] at h2
    rintro (⟨h3, h4⟩ | h3)
    · have hu : 1 ≤ decI (l ++ [b]) := by
        cases l with
        | nil => exact absurd rfl h3
        | cons a t =>
          by_cases hz : decI (a :: t ++ [b]) = 0
          · rw [hz] at h
            simp [encI] at h
          · omega
      have h5 := enc_last 9 (decI (l ++ [b]) % 18446744073709551616) (by omega) (enc_ne _ _)
      apply h5
      simp only [h]
      rw [List.getLast_append_of_ne_nil _ (by simp)]
      exact h4
    · exact (hD.1 (by omega)) h3
  · intro h
    rw [Int.emod_eq_of_lt hn (hD.2 (fun h2 => h (.inr h2)))]
    exact enc_dec l b 9 hw h0 h1 (fun h2 h3 => h (.inl ⟨h2, h3⟩)) hl
theorem enc_range : ∀ f u, 0 ≤ u → u < 128 ^ (f + 1) → ∀ x ∈ encI f u, 0 ≤ x ∧ x < 256
  | 0, u, h0, h1, x, hx => by simp [encI] at hx; subst hx; omega
  | f + 1, u, h0, h1, x, hx => by
    unfold encI at hx
    split at hx
    · rcases List.mem_cons.1 hx with rfl | hx
      · omega
      · exact enc_range f (u / 128) (by omega) (by rw [Int.pow_succ] at h1; omega) x hx
    · simp at hx
      subst hx
      omega
/-- The first bytes of a text. -/
def bts (s : ByteArray) (n : Nat) : List Int := (List.range n).map (fun j : Nat => bt s (j : Int))
theorem bytes_iff (s : ByteArray) (L : List Int) (hL : ∀ x ∈ L, 0 ≤ x ∧ x < 256) (n : Nat) (hn : n ≤ s.size) : ((strOfNums L).toList = (s.extract 0 n).toList) ↔ L = bts s n := by
  have h1 : ((strOfNums L).toList).map (fun b : UInt8 => (b.toNat : Int)) = L := by
    rw [Lib.toList_data]
    unfold strOfNums
    simp only [List.map_map]
    conv => rhs; rw [← List.map_id L]
    refine List.map_congr_left (fun x hx => ?_)
    have := hL x hx
    simp only [Function.comp, id, UInt8.toNat_ofNat']
    omega
  have h2 : ((s.extract 0 n).toList).map (fun b : UInt8 => (b.toNat : Int)) = bts s n := by
    rw [Lib.toList_data, Lib.extract_data, List.drop_zero, Nat.sub_zero]
    apply List.ext_getElem
    · simp [bts]
      have : s.data.size = s.size := rfl
      omega
    · intro j h3 h4
      have hj : j < n := by simpa [bts] using h4
      have hjs : j < s.size := by omega
      simp [bts, bt, hjs]
      rfl
  constructor
  · intro h
    rw [← h1, h, h2]
  · intro h
    have h3 : ((strOfNums L).toList).map (fun b : UInt8 => (b.toNat : Int)) = ((s.extract 0 n).toList).map (fun b : UInt8 => (b.toNat : Int)) := by rw [h1, h2, h]
    exact List.map_inj_right (fun a b hab => UInt8.toNat_inj.1 (by omega)) |>.1 h3
theorem put_l0 : ∀ (f : Nat) (u : Int) (acc : List Int) (k : Nat), 0 ≤ u → u < 128 ^ (f + 1) → u < 18446744073709551616 → f < k → acc.length + f ≤ 1000 → headgateref01_Put.l0 k u acc = some (strOfNums (acc ++ encI f u))
  | 0, u, acc, k, h0, h1, h2, hk, ha => by
    obtain ⟨k, rfl⟩ : ∃ j, k = j + 1 := ⟨k - 1, by omega⟩
    rw [headgateref01_Put.l0, if_neg (by omega), if_pos (by omega)]
    simp only [encI]
    rw [show u % 256 = u by omega]
  | f + 1, u, acc, k, h0, h1, h2, hk, ha => by
    obtain ⟨k, rfl⟩ : ∃ j, k = j + 1 := ⟨k - 1, by omega⟩
    rw [headgateref01_Put.l0]
    unfold encI
    have e1 : Int.tdiv u 128 = u / 128 := Int.tdiv_eq_ediv_of_nonneg h0
    have e2 : Int.tmod u 128 = u % 128 := Int.tmod_eq_emod_of_nonneg h0
    by_cases c : u > 127
    · rw [if_pos c, if_pos c, if_pos (by omega), e1, e2, IntKind.wrap_u64, IntKind.wrap_u64, show (u % 128 + 128) % 18446744073709551616 % 256 = u % 128 + 128 by omega, show u / 128 % 18446744073709551616 = u / 128 by omega,
        put_l0 f (u / 128) _ k (by omega) (by rw [Int.pow_succ] at h1; omega) (by omega) (by omega) (by simp; omega)]
      simp
    · rw [if_neg c, if_neg c, if_pos (by omega), show u % 256 = u by omega]
/-- The number that bits say. -/
def numU (u : Int) : Int := if Int.tmod u 2 = 1 then wrap64 ((wrap64 (-(wrap64 (IntKind.u64.wrap (Int.tdiv u 2))))) - 1) else wrap64 (IntKind.u64.wrap (Int.tdiv u 2))
theorem put_num (u : Int) (k : Nat) (h0 : 0 ≤ u) (h1 : u < 18446744073709551616) (hk : 11 ≤ k) : headgateref01_Put.f k (numU u) = some (strOfNums (encI 9 u)) := by
  have e1 : Int.tdiv u 2 = u / 2 := Int.tdiv_eq_ediv_of_nonneg h0
  have e2 : Int.tmod u 2 = u % 2 := Int.tmod_eq_emod_of_nonneg h0
  obtain ⟨k, rfl⟩ : ∃ j, k = j + 1 := ⟨k - 1, by omega⟩
  have hj : ∀ x : Int, x = u → headgateref01_Put.j0 (k + 1) x = some (strOfNums (encI 9 u)) := by
    rintro x rfl
    rw [headgateref01_Put.j0, put_l0 9 x [] k h0 (by omega) h1 (by omega) (by simp)]
    rfl
  unfold numU headgateref01_Put.f
  rw [e1, e2]
  simp only [IntKind.wrap_u64]
  by_cases c : u % 2 = 1
  · rw [if_pos c]
    have hn : wrap64 (wrap64 (-wrap64 (u / 2 % 18446744073709551616)) - 1) = -(u / 2) - 1 := by unfold wrap64; omega
    rw [hn, if_pos (by omega)]
    exact hj _ (by unfold wrap64; omega)
  · rw [if_neg c]
    have hn : wrap64 (u / 2 % 18446744073709551616) = u / 2 := by unfold wrap64; omega
    rw [hn, if_neg (by omega)]
    exact hj _ (by omega)
end Go.Proofs.Ytgipepjpkmlmaaa.P
namespace Go.Proofs.Ytgipepjpkmlmaaa.P
open Go.RowKit Go.Proofs.YtgipepjpkmlmaaaW.PrintWords Go.Proofs.YtgipepjpkmlmaaaW.PrintLast Go.Proofs.YtgipepjpkmlmaaaW.PrintMore
set_option linter.unusedVariables false
set_option linter.unusedSimpArgs false
/-- The first byte below 128, of some. -/
def scanK (s : ByteArray) : Nat → Nat → Option Nat
  | 0, _ => none
  | f + 1, k => if k = s.size then none else if 128 ≤ bt s (k : Int) then scanK s f (k + 1) else some k
theorem scan_spec (s : ByteArray) : ∀ f k K, k ≤ s.size → scanK s f k = some K → k ≤ K ∧ K < k + f ∧ K < s.size ∧ bt s (K : Int) < 128 ∧ ∀ j, k ≤ j → j < K → 128 ≤ bt s (j : Int)
  | 0, k, K, hk, h => by simp [scanK] at h
  | f + 1, k, K, hk, h => by
    unfold scanK at h
    split at h
    · cases h
    · split at h
      · rename_i h1 h2
        obtain ⟨a, b, c, d, e⟩ := scan_spec s f (k + 1) K (by omega) h
        refine ⟨by omega, by omega, c, d, fun j h3 h4 => ?_⟩
        by_cases h5 : j = k
        · subst h5; exact h2
        · exact e j (by omega) h4
      · rename_i h1 h2
        cases h
        exact ⟨by omega, by omega, by omega, by omega, fun j h3 h4 => by omega⟩
def badK (s : ByteArray) (K : Nat) : Prop := (0 < K ∧ bt s (K : Int) = 0) ∨ (K = 9 ∧ 1 < bt s (K : Int))
theorem tk_none (s : ByteArray) : ∀ f k u, k + f = 10 → scanK s f k = none → (tkL s (f + 1) k u).2.2 = 2
  | 0, k, u, hk, h => by
    obtain rfl : k = 10 := by omega
    simp [tkL]
  | f + 1, k, u, hk, h => by
    unfold scanK at h
    rw [tkL]
    by_cases c : k = s.size
    · rw [if_pos (.inl c)]
    · rw [if_neg c] at h
      rw [if_neg (by omega)]
      by_cases d : 128 ≤ bt s (k : Int)
      · rw [if_pos d] at h ⊢
        exact tk_none s f (k + 1) _ (by omega) h
      · rw [if_neg d] at h
        cases h
theorem tk_some (s : ByteArray) : ∀ f k u K, k + f = 10 → scanK s f k = some K → (badK s K → (tkL s (f + 1) k u).2.2 = 2) ∧ (¬ badK s K → (tkL s (f + 1) k u).2.2 = 0 ∧ (tkL s (f + 1) k u).2.1 = s.extract (K + 1) s.size)
  | 0, k, u, K, hk, h => by simp [scanK] at h
  | f + 1, k, u, K, hk, h => by
    unfold scanK at h
    rw [tkL]
    by_cases c : k = s.size
    · rw [if_pos c] at h; cases h
    · rw [if_neg c] at h
      rw [if_neg (by omega)]
      by_cases d : 128 ≤ bt s (k : Int)
      · rw [if_pos d] at h ⊢
        exact tk_some s f (k + 1) _ K (by omega) h
      · rw [if_neg d] at h ⊢
        cases h
        constructor
        · intro hb; unfold badK at hb; rw [if_pos hb]
        · intro hb; unfold badK at hb; rw [if_neg hb]; exact ⟨rfl, rfl⟩
theorem rl_none (s : ByteArray) : ∀ f k M, k + f = 10 → k ≤ s.size → scanK s f k = none → headgateref01_Take.l0 (M + f + 3) s (k : Int) = some (0, ⟨#[]⟩, 2)
  | 0, k, M, hk, hs, h => by
    obtain rfl : k = 10 := by omega
    have hj : headgateref01_Take.j1 (M + 2) s ((10 : Nat) : Int) = some (0, ⟨#[]⟩, 2) := by
      rw [headgateref01_Take.j1]
      split
      · rw [headgateref01_Take.j2, if_pos rfl]
      · rw [headgateref01_Take.j2, if_pos (by rfl)]
    rw [show M + 0 + 3 = (M + 2) + 1 by omega, headgateref01_Take.l0]
    by_cases c : (((10 : Nat) : Int)) < (s.size : Int)
    · rw [if_pos c, if_neg (by omega), hj]
    · rw [if_neg c, hj]
  | f + 1, k, M, hk, hs, h => by
    unfold scanK at h
    by_cases c : k = s.size
    · rw [show M + (f + 1) + 3 = (M + f + 1 + 2) + 1 by omega, headgateref01_Take.l0, if_neg (by omega), headgateref01_Take.j1, if_pos (by omega), headgateref01_Take.j2, if_pos rfl]
    · rw [if_neg c] at h
      by_cases d : 128 ≤ bt s (k : Int)
      · rw [if_pos d] at h
        have hw : wrap64 ((k : Int) + 1) = ((k + 1 : Nat) : Int) := by unfold wrap64; omega
        rw [show M + (f + 1) + 3 = (M + f + 3) + 1 by omega, headgateref01_Take.l0, if_pos (by omega), if_pos (by omega), if_pos (by omega), if_pos (by omega), hw]
        exact rl_none s f (k + 1) M (by omega) (by omega) h
      · rw [if_neg d] at h
        cases h
theorem rl_some (s : ByteArray) : ∀ f k K M, k + f = 10 → k ≤ s.size → scanK s f k = some K → headgateref01_Take.l0 (M + (K - k) + 3) s (k : Int) = headgateref01_Take.l1 M s (K : Int) 0 (K : Int)
  | 0, k, K, M, hk, hs, h => by simp [scanK] at h
  | f + 1, k, K, M, hk, hs, h => by
    have hsp := scan_spec s (f + 1) k K hs h
    unfold scanK at h
    by_cases c : k = s.size
    · rw [if_pos c] at h; cases h
    · rw [if_neg c] at h
      by_cases d : 128 ≤ bt s (k : Int)
      · rw [if_pos d] at h
        have h2 := scan_spec s f (k + 1) K (by omega) h
        have hw : wrap64 ((k : Int) + 1) = ((k + 1 : Nat) : Int) := by unfold wrap64; omega
        rw [show M + (K - k) + 3 = (M + (K - (k + 1)) + 3) + 1 by omega, headgateref01_Take.l0, if_pos (by omega), if_pos (by omega), if_pos (by omega), if_pos (by omega), hw]
        exact rl_some s f (k + 1) K M (by omega) (by omega) h
      · rw [if_neg d] at h
        cases h
        rw [show M + (k - k) + 3 = (M + 1 + 1) + 1 by omega, headgateref01_Take.l0, if_pos (by omega), if_pos (by omega), if_pos (by omega), if_neg (by omega), headgateref01_Take.j1, if_neg (by omega), headgateref01_Take.j2, if_neg (by
          have : ((k : Int) == 10) = false := beq_eq_false_iff_ne.2 (by omega)
          rw [this]; decide)]
theorem bts_length (s : ByteArray) (n : Nat) : (bts s n).length = n := by simp [bts]
theorem bts_drop (s : ByteArray) (n j : Nat) (hj : j < n) : (bts s n).drop j = bt s (j : Int) :: (bts s n).drop (j + 1) := by
  rw [List.drop_eq_getElem_cons (by rw [bts_length]; exact hj)]
  simp [bts]
/-- What is answered of the bits. -/
def endT (s : ByteArray) (K : Nat) (U : Int) : Int × ByteArray × Int := if (strOfNums (encI 9 U)).toList = (s.extract 0 (K + 1)).toList then (numU U, s.extract (K + 1) s.size, 0) else (0, ⟨#[]⟩, 2)
theorem rl_end (s : ByteArray) (K M : Nat) (U : Int) (hK : K < s.size) (hK9 : K ≤ 9) (h0 : 0 ≤ U) (h1 : U < 18446744073709551616) (hM : 11 ≤ M) : headgateref01_Take.l1 (M + 1) s (K : Int) U (-1) = some (endT s K U) := by
  have hw : wrap64 ((K : Int) + 1) = ((K + 1 : Nat) : Int) := by unfold wrap64; omega
  have hp := put_num U M h0 h1 hM
  rw [headgateref01_Take.l1, if_neg (by omega), hw, Int.toNat_natCast]
  unfold numU at hp
  unfold endT numU
  by_cases c : Int.tmod U 2 = 1
  · rw [if_pos c] at hp
    rw [if_pos c, hp, Option.bind_some, if_pos (by omega), if_pos (by omega)]
    split <;> simp_all
  · rw [if_neg c] at hp
    rw [if_neg c, hp, Option.bind_some, if_pos (by omega), if_pos (by omega)]
    split <;> simp_all
theorem rl_l1 (s : ByteArray) (K : Nat) (hK : K < s.size) (hK9 : K ≤ 9) : ∀ (j : Nat) (M : Nat), j ≤ K + 1 → 11 ≤ M →
    headgateref01_Take.l1 (M + 1 + j) s (K : Int) (decI ((bts s (K + 1)).drop j) % 18446744073709551616) ((j : Int) - 1) = some (endT s K (decI (bts s (K + 1)) % 18446744073709551616))
  | 0, M, hj, hM => by
    rw [List.drop_zero]
    exact rl_end s K M _ hK hK9 (by omega) (by omega) hM
  | j + 1, M, hj, hM => by
    have ih := rl_l1 s K hK hK9 j M (by omega) hM
    have hb := bt_range s (j : Int)
    have e : (((j + 1 : Nat) : Int) - 1) = (j : Int) := by omega
    have hw : wrap64 ((j : Int) - 1) = (j : Int) - 1 := by unfold wrap64; omega
    rw [e, show M + 1 + (j + 1) = (M + 1 + j) + 1 by omega, headgateref01_Take.l1, if_pos (by omega), if_pos (by omega), if_pos (by omega), hw, IntKind.wrap_u64, IntKind.wrap_u64, IntKind.wrap_u64]
    have hd : decI ((bts s (K + 1)).drop j) = bt s (j : Int) % 128 + 128 * decI ((bts s (K + 1)).drop (j + 1)) := by rw [bts_drop s (K + 1) j (by omega)]; rfl
    have hm : Int.tmod (bt s (j : Int) % 18446744073709551616) 128 = bt s (j : Int) % 128 := by rw [Int.tmod_eq_emod_of_nonneg (by omega)]; omega
    rw [hm, show (decI ((bts s (K + 1)).drop (j + 1)) % 18446744073709551616 * 128 % 18446744073709551616 + bt s (j : Int) % 128) % 18446744073709551616 = decI ((bts s (K + 1)).drop j) % 18446744073709551616 by rw [hd]; omega]
    exact ih
theorem end_iff (s : ByteArray) (K : Nat) (hs : scanK s 10 0 = some K) : ((strOfNums (encI 9 (decI (bts s (K + 1)) % 18446744073709551616))).toList = (s.extract 0 (K + 1)).toList) ↔ ¬ badK s K := by
  obtain ⟨_, h2, h3, h4, h5⟩ := scan_spec s 10 0 K (by omega) hs
  rw [bytes_iff s _ (enc_range 9 _ (by omega) (by omega)) (K + 1) (by omega)]
  have hsn : bts s (K + 1) = bts s K ++ [bt s (K : Int)] := by simp [bts, List.range_succ]
  have hl : (bts s K).length = K := bts_length s K
  have hb := bt_range s (K : Int)
  have := enc_iff (bts s K) (bt s (K : Int)) (fun x hx => by
    simp only [bts, List.mem_map, List.mem_range] at hx
    obtain ⟨j, hj, rfl⟩ := hx
    exact ⟨h5 j (by omega) hj, (bt_range s (j : Int)).2⟩) hb.1 h4 (by omega)
  rw [hsn, this, hl]
  unfold badK
  constructor
  · intro h c
    refine h ?_
    rcases c with ⟨a, b⟩ | c
    · exact .inl ⟨fun e => by rw [e] at hl; simp at hl; omega, b⟩
    · exact .inr c
  · intro h c
    refine h ?_
    rcases c with ⟨a, b⟩ | c
    · refine .inl ⟨?_, b⟩
      cases K with
      | zero => exact absurd (List.eq_nil_of_length_eq_zero hl) a
      | succ n => omega
    · exact .inr c
/-- Of a text both say alike whether it is a number. -/
theorem value_ref (a b : Int) (s : ByteArray) : ∃ k r, headgateref16_Value.f k a b s = some (r, (valP s).2) := by
  cases hs : scanK s 10 0 with
  | none =>
    have h1 := rl_none s 10 0 0 (by omega) (by omega) hs
    have h2 := tk_none s 10 0 0 (by omega) hs
    refine ⟨0 + 10 + 3, 0, ?_⟩
    unfold headgateref16_Value.f headgateref01_Take.f
    rw [show (0 : Int) = ((0 : Nat) : Int) from rfl, h1]
    simp [valP, h2]
  | some K =>
    obtain ⟨_, h2, h3, h4, h5⟩ := scan_spec s 10 0 K (by omega) hs
    have h1 := rl_some s 10 0 K (11 + 1 + (K + 1)) (by omega) (by omega) hs
    have h6 := rl_l1 s K h3 (by omega) (K + 1) 11 (by omega) (by omega)
    rw [List.drop_of_length_le (by rw [bts_length]; omega), show decI [] % 18446744073709551616 = 0 by rfl, show (((K + 1 : Nat) : Int) - 1) = (K : Int) by omega] at h6
    rw [h6] at h1
    have h7 := tk_some s 10 0 0 K (by omega) hs
    have h8 := end_iff s K hs
    refine ⟨11 + 1 + (K + 1) + (K - 0) + 3, (endT s K (decI (bts s (K + 1)) % 18446744073709551616)).1, ?_⟩
    unfold headgateref16_Value.f headgateref01_Take.f
    rw [show (0 : Int) = ((0 : Nat) : Int) from rfl, h1, Option.bind_some]
    by_cases c : badK s K
    · have e := h7.1 c
      have e2 : endT s K (decI (bts s (K + 1)) % 18446744073709551616) = (0, ⟨#[]⟩, 2) := by unfold endT; rw [if_neg (fun h => (h8.1 h) c)]
      rw [e2]
      simp [valP, e]
    · obtain ⟨e, e3⟩ := h7.2 c
      have e2 : endT s K (decI (bts s (K + 1)) % 18446744073709551616) = (numU (decI (bts s (K + 1)) % 18446744073709551616), s.extract (K + 1) s.size, 0) := by unfold endT; rw [if_pos (h8.2 c)]
      rw [e2]
      simp only [if_true]
      unfold valP
      rw [e, e3]
      congr 2
      cases h9 : (s.extract (K + 1) s.size).toList <;> simp [h9]
end Go.Proofs.Ytgipepjpkmlmaaa.P
namespace Go.Proofs.Ytgipepjpkmlmaaa.P
open Go.RowKit Go.Proofs.YtgipepjpkmlmaaaW.PrintWords Go.Proofs.YtgipepjpkmlmaaaW.PrintLast Go.Proofs.YtgipepjpkmlmaaaW.PrintMore
set_option linter.unusedVariables false
set_option linter.unusedSimpArgs false
theorem wraps_u64 (n : Int) (h0 : 0 ≤ n) (h1 : n < 2 ^ 64) : IntKind.u64.wrap n = n := by rw [IntKind.wrap_u64]; omega
theorem tkOr_add (u b : Int) (k : Nat) (h0 : 0 ≤ u) (h1 : u < 128 ^ k) (b0 : 0 ≤ b) (b1 : b < 256) (hk : k ≤ 9) (hb : k = 9 → b % 128 ≤ 1) : tkOr u b k = u + b % 128 * 128 ^ k ∧ u + b % 128 * 128 ^ k < 18446744073709551616 ∧ u + b % 128 * 128 ^ k < 128 ^ (k + 1) := by
  have e7 : (2 : Int) ^ (7 * k) = 128 ^ k := by rw [Int.pow_mul]; rfl
  have hand : bits .and .u8 b 127 = b % 128 := bits_mask .u8 8 (by decide) wraps_u8 7 (by decide) b b0 b1
  have hm0 : 0 ≤ b % 128 := by omega
  have hm1 : b % 128 < 128 := by omega
  have hmul : b % 128 * 128 ^ k ≤ 127 * 128 ^ k := Int.mul_le_mul_of_nonneg_right (by omega) (Int.pow_nonneg (by omega))
  have hmul0 : 0 ≤ b % 128 * 128 ^ k := Int.mul_nonneg hm0 (Int.pow_nonneg (by omega))
  have hpow : (128 : Int) ^ (k + 1) = 128 * 128 ^ k := by rw [Int.pow_succ, Int.mul_comm]
  have hlt : u + b % 128 * 128 ^ k < 18446744073709551616 := by
    by_cases h9 : k = 9
    · subst h9
      have := hb rfl
      have e : (128 : Int) ^ 9 = 9223372036854775808 := by decide
      rw [e] at h1 ⊢
      omega
    · have hp : (128 : Int) ^ (k + 1) ≤ 128 ^ 9 := by
        have h := Nat.pow_le_pow_right (show 0 < 128 by decide) (show k + 1 ≤ 9 by omega)
        exact_mod_cast h
      have e : (128 : Int) ^ 9 = 9223372036854775808 := by decide
      rw [e, hpow] at hp
      omega
  refine ⟨?_, hlt, by rw [hpow]; omega⟩
  unfold tkOr
  rw [hand, wraps_u64 (b % 128) hm0 (by omega), e7, wraps_u64 _ hmul0 (by omega)]
  have hc : bits .or .u64 u (b % 128 * 128 ^ k) = bits .or .u64 (b % 128 * 128 ^ k) u := by
    unfold bits
    simp only [BitVec.or_comm]
  rw [hc]
  have := bits_join .u64 64 (by decide) wraps_u64 (7 * k) (b % 128 * 128 ^ k) u hmul0 (by rw [e7]; exact Int.mul_emod_left _ _) (by omega) h0 (by rw [e7]; exact h1) (by omega)
  rw [this]
  omega
theorem xor_zero (x : Int) (h0 : -9223372036854775808 ≤ x) (h1 : x ≤ 9223372036854775807) : bits .xor .i64 x 0 = x := by
  unfold bits
  have e : BitVec.ofInt IntKind.i64.bits 0 = 0#64 := by rfl
  simp only [e]
  show IntKind.i64.wrap (((BitVec.ofInt 64 x ^^^ 0#64).toNat : Nat) : Int) = x
  rw [BitVec.xor_zero, BitVec.toNat_ofInt, IntKind.wrap_i64]
  omega
theorem xor_ones (x : Int) (h0 : -9223372036854775808 ≤ x) (h1 : x ≤ 9223372036854775807) : bits .xor .i64 x (-1) = -x - 1 := by
  unfold bits
  have e : BitVec.ofInt IntKind.i64.bits (-1) = BitVec.allOnes 64 := by rfl
  simp only [e]
  show IntKind.i64.wrap (((BitVec.ofInt 64 x ^^^ BitVec.allOnes 64).toNat : Nat) : Int) = -x - 1
  rw [BitVec.xor_allOnes, BitVec.toNat_not, BitVec.toNat_ofInt, IntKind.wrap_i64]
  omega
theorem tkN_num (u : Int) (h0 : 0 ≤ u) (h1 : u < 18446744073709551616) : tkN u = numU u := by
  have hand : bits .and .u64 u 1 = u % 2 := bits_mask .u64 64 (by decide) wraps_u64 1 (by decide) u h0 h1
  have e1 : Int.tdiv u 2 = u / 2 := Int.tdiv_eq_ediv_of_nonneg h0
  have e2 : Int.tmod u 2 = u % 2 := Int.tmod_eq_emod_of_nonneg h0
  unfold tkN numU
  rw [hand, e1, e2, wraps_u64 (u / 2) (by omega) (by omega)]
  have w1 : wrap64 (u / 2) = u / 2 := by unfold wrap64; omega
  have w2 : wrap64 (u % 2) = u % 2 := by unfold wrap64; omega
  rw [w1, w2]
  by_cases c : u % 2 = 1
  · rw [if_pos c, c, show wrap64 (-1) = -1 by unfold wrap64; omega, xor_ones _ (by omega) (by omega)]
    unfold wrap64
    omega
  · rw [if_neg c, show u % 2 = 0 by omega, show wrap64 (-0) = 0 by unfold wrap64; omega, xor_zero _ (by omega) (by omega)]
theorem decI_take (s : ByteArray) : ∀ k, decI (bts s (k + 1)) = decI (bts s k) + bt s (k : Int) % 128 * 128 ^ k := by
  intro k
  have e : bts s (k + 1) = bts s k ++ [bt s (k : Int)] := by
    unfold bts
    rw [List.range_succ, List.map_append]
    rfl
  have hl : (bts s k).length = k := bts_length s k
  rw [e, dec_snoc, hl, Int.mul_comm]
theorem bt_range (s : ByteArray) (k : Int) : 0 ≤ bt s k ∧ bt s k < 256 := by
  unfold bt
  split
  · rename_i h
    have := UInt8.toNat_lt (s[k.toNat])
    omega
  · omega
theorem tk_val (s : ByteArray) : ∀ f k u K, k + f = 10 → scanK s f k = some K → ¬ badK s K → u = decI (bts s k) → (tkL s (f + 1) k u).1 = numU (decI (bts s (K + 1))) ∧ decI (bts s (K + 1)) < 18446744073709551616
  | 0, k, u, K, hk, h, _, _ => by simp [scanK] at h
  | f + 1, k, u, K, hk, h, hb, hu => by
    have hsp := scan_spec s (f + 1) k K
    unfold scanK at h
    rw [tkL]
    have hr := bt_range s (k : Int)
    have hul : u < 128 ^ k := by
      have := dec_lt (bts s k)
      rw [bts_length] at this
      rw [hu]
      exact this
    have hu0 : 0 ≤ u := by rw [hu]; exact decI_nonneg _
    by_cases c : k = s.size
    · rw [if_pos c] at h; cases h
    · rw [if_neg c] at h
      rw [if_neg (by omega)]
      by_cases d : 128 ≤ bt s (k : Int)
      · rw [if_pos d] at h ⊢
        have hkk : k ≠ 9 := by
          intro e
          have : f = 0 := by omega
          subst this
          simp [scanK] at h
        have ho := tkOr_add u (bt s (k : Int)) k hu0 hul hr.1 hr.2 (by omega) (fun e => absurd e hkk)
        refine tk_val s f (k + 1) _ K (by omega) h hb ?_
        rw [ho.1, decI_take, hu]
      · rw [if_neg d] at h ⊢
        cases h
        have hb' := hb
        unfold badK at hb
        rw [if_neg hb]
        have ho := tkOr_add u (bt s (k : Int)) k hu0 hul hr.1 hr.2 (by omega) (fun e => by subst e; omega)
        have e : tkOr u (bt s (k : Int)) k = decI (bts s (k + 1)) := by rw [ho.1, decI_take, hu]
        have hlt : decI (bts s (k + 1)) < 18446744073709551616 := by rw [← e, ho.1]; exact ho.2.1
        exact ⟨by show tkN (tkOr u (bt s (k : Int)) k) = _; rw [e]; exact tkN_num _ (decI_nonneg _) hlt, hlt⟩
/-- Both say the same number, if there is one. -/
theorem value_ref2 (a b : Int) (s : ByteArray) : ∃ k r, headgateref16_Value.f k a b s = some (r, (valP s).2) ∧ ((valP s).2 = true → r = (valP s).1) := by
  cases hs : scanK s 10 0 with
  | none =>
    obtain ⟨k, r, h⟩ := value_ref a b s
    refine ⟨k, r, h, fun hv => ?_⟩
    have h2 := tk_none s 10 0 0 (by omega) hs
    unfold valP at hv
    simp only [h2] at hv
    cases hv
  | some K =>
    obtain ⟨_, h2, h3, h4, h5⟩ := scan_spec s 10 0 K (by omega) hs
    have h1 := rl_some s 10 0 K (11 + 1 + (K + 1)) (by omega) (by omega) hs
    have h6 := rl_l1 s K h3 (by omega) (K + 1) 11 (by omega) (by omega)
    rw [List.drop_of_length_le (by rw [bts_length]; omega), show decI [] % 18446744073709551616 = 0 by rfl, show (((K + 1 : Nat) : Int) - 1) = (K : Int) by omega] at h6
    rw [h6] at h1
    have h7 := tk_some s 10 0 0 K (by omega) hs
    have h8 := end_iff s K hs
    refine ⟨11 + 1 + (K + 1) + (K - 0) + 3, (endT s K (decI (bts s (K + 1)) % 18446744073709551616)).1, ?_⟩
    unfold headgateref16_Value.f headgateref01_Take.f
    rw [show (0 : Int) = ((0 : Nat) : Int) from rfl, h1, Option.bind_some]
    by_cases c : badK s K
    · have e := h7.1 c
      have e2 : endT s K (decI (bts s (K + 1)) % 18446744073709551616) = (0, ⟨#[]⟩, 2) := by unfold endT; rw [if_neg (fun h => (h8.1 h) c)]
      rw [e2]
      simp [valP, e]
    · obtain ⟨e, e3⟩ := h7.2 c
      have e2 : endT s K (decI (bts s (K + 1)) % 18446744073709551616) = (numU (decI (bts s (K + 1)) % 18446744073709551616), s.extract (K + 1) s.size, 0) := by unfold endT; rw [if_pos (h8.2 c)]
      obtain ⟨v1, v2⟩ := tk_val s 10 0 0 K (by omega) hs c rfl
      rw [e2]
      refine ⟨?_, fun _ => ?_⟩
      · simp only [if_true]
        unfold valP
        rw [e, e3]
        congr 2
        cases h9 : (s.extract (K + 1) s.size).toList <;> simp [h9]
      · show numU (decI (bts s (K + 1)) % 18446744073709551616) = (valP s).1
        rw [Int.emod_eq_of_lt (decI_nonneg _) v2]
        exact v1.symm
theorem numU_range (u : Int) : -9223372036854775808 ≤ numU u ∧ numU u ≤ 9223372036854775807 := by
  unfold numU
  split <;> (unfold wrap64; omega)
theorem valP_range (s : ByteArray) (h : (valP s).2 = true) : -9223372036854775808 ≤ (valP s).1 ∧ (valP s).1 ≤ 9223372036854775807 := by
  cases hs : scanK s 10 0 with
  | none =>
    have h2 := tk_none s 10 0 0 (by omega) hs
    unfold valP at h
    simp only [h2] at h
    cases h
  | some K =>
    by_cases c : badK s K
    · have h7 := (tk_some s 10 0 0 K (by omega) hs).1 c
      unfold valP at h
      simp only [h7] at h
      cases h
    · obtain ⟨v1, _⟩ := tk_val s 10 0 0 K (by omega) hs c rfl
      show _ ≤ (tkL s 11 0 0).1 ∧ (tkL s 11 0 0).1 ≤ _
      rw [v1]
      exact numU_range _
end Go.Proofs.Ytgipepjpkmlmaaa.P
namespace Go.Proofs.Ytgipepjpkmlmaaa.P
open Go.RowKit Go.Proofs.YtgipepjpkmlmaaaW.PrintWords Go.Proofs.YtgipepjpkmlmaaaW.PrintLast Go.Proofs.YtgipepjpkmlmaaaW.PrintMore
set_option linter.unusedVariables false
set_option linter.unusedSimpArgs false
theorem same_l0 (l : List S46) (hl : l.length ≤ 1000000) : ∀ (n i : Nat), i + n = l.length → headgateref16_SameCells.l0 (n + 1) l l (i : Int) = some true := by
  intro n
  induction n with
  | zero =>
    intro i h
    rw [headgateref16_SameCells.l0, if_neg (by omega)]
  | succ n ih =>
    intro i h
    rw [headgateref16_SameCells.l0, if_pos (by omega), if_pos (by omega), if_pos (by omega), if_neg (by simp)]
    rw [show wrap64 ((i : Int) + 1) = ((i + 1 : Nat) : Int) by unfold wrap64; omega]
    exact ih (i + 1) (by omega)
theorem same_cells (l : List S46) (hl : l.length ≤ 1000000) : headgateref16_SameCells.f (l.length + 1) l l = some true := by
  unfold headgateref16_SameCells.f
  rw [if_pos rfl]
  exact same_l0 l hl _ 0 (by omega)
theorem same_state (s : S28) (hl : s.f4.length ≤ 1000000) : headgateref16_Same.f (s.f4.length + 1) s.f0 s.f1 s.f2 s.f3 s.f4 s.f0 s.f1 s.f2 s.f3 s.f4 = some true := by
  unfold headgateref16_Same.f
  rw [if_pos rfl, if_pos rfl, if_pos rfl, if_pos rfl, same_cells _ hl]
  rfl
def stN (g : S23) (t : Int) (i : Nat) : Int := t - t % g.f1 - g.f0 + g.f1 * ((i : Int) + 1)
theorem grid_q {g : S23} (hg : chkG g = true) : ∃ q : Nat, 1 ≤ q ∧ q ≤ 8 ∧ g.f1 * (q : Int) = g.f0 ∧ wrap64 (Int.tdiv g.f0 g.f1) = (q : Int) := by
  obtain ⟨g0, g1, g2, g3, g4, g5, g6, g7⟩ := chkG_spec hg
  have e1 : Int.tdiv g.f0 g.f1 = g.f0 / g.f1 := Int.tdiv_eq_ediv_of_nonneg (by omega)
  have e2 : Int.tmod g.f0 g.f1 = g.f0 % g.f1 := Int.tmod_eq_emod_of_nonneg (by omega)
  rw [e2] at g4
  have q0 : 1 ≤ g.f0 / g.f1 := (Int.le_ediv_iff_mul_le (by omega)).2 (by omega)
  have qle : g.f0 / g.f1 ≤ g.f0 := Int.ediv_le_self _ (by omega)
  have hn : wrap64 (Int.tdiv g.f0 g.f1) = g.f0 / g.f1 := by rw [e1]; unfold wrap64; omega
  rw [hn] at g5
  have hd : g.f1 * (g.f0 / g.f1) + g.f0 % g.f1 = g.f0 := Int.mul_ediv_add_emod _ _
  refine ⟨(g.f0 / g.f1).toNat, by omega, by omega, ?_, by rw [hn]; omega⟩
  rw [show (((g.f0 / g.f1).toNat : Nat) : Int) = g.f0 / g.f1 by omega]
  omega
section
variable {g : S23} {t : Int} (hg : chkG g = true) (h0 : 0 ≤ t) (h1 : t ≤ 1099511627776)
theorem t_mod (hg : chkG g = true) (h0 : 0 ≤ t) : Int.tmod t g.f1 = t % g.f1 ∧ 0 ≤ t % g.f1 ∧ t % g.f1 < g.f1 ∧ t % g.f1 ≤ t := by
  obtain ⟨g0, g1, g2, g3, g4, g5, g6, g7⟩ := chkG_spec hg
  have ht : g.f1 * (t / g.f1) + t % g.f1 = t := Int.mul_ediv_add_emod _ _
  have hq : 0 ≤ t / g.f1 := Int.ediv_nonneg h0 (by omega)
  have hm : 0 ≤ g.f1 * (t / g.f1) := Int.mul_nonneg (by omega) hq
  exact ⟨Int.tmod_eq_emod_of_nonneg h0, Int.emod_nonneg _ (by omega), Int.emod_lt_of_pos _ (by omega), by omega⟩
theorem mul_le8 (hg : chkG g = true) (i : Nat) (hi : i ≤ 8) : 0 ≤ g.f1 * (i : Int) ∧ g.f1 * (i : Int) ≤ 8388608 := by
  obtain ⟨g0, g1, g2, g3, g4, g5, g6, g7⟩ := chkG_spec hg
  have a := Int.mul_le_mul_of_nonneg_left (show (i : Int) ≤ 8 by omega) (show 0 ≤ g.f1 by omega)
  have b := Int.mul_nonneg (show 0 ≤ g.f1 by omega) (show (0 : Int) ≤ (i : Int) by omega)
  omega
include hg h0 h1 in
theorem stAt_eq (i : Nat) (hi : i < 8) : stAt g t (i : Int) = stN g t i := by
  obtain ⟨g0, g1, g2, g3, g4, g5, g6, g7⟩ := chkG_spec hg
  obtain ⟨m0, m1, m2, m3⟩ := t_mod hg h0
  have hm := mul_le8 hg (i + 1) (by omega)
  rw [show (((i + 1 : Nat)) : Int) = (i : Int) + 1 by omega] at hm
  unfold stAt stN
  rw [m0]
  have w0 : wrap64 ((i : Int) + 1) = (i : Int) + 1 := by unfold wrap64; omega
  rw [w0]
  have w1 : wrap64 (g.f1 * ((i : Int) + 1)) = g.f1 * ((i : Int) + 1) := by unfold wrap64; omega
  rw [w1]
  have w2 : wrap64 (t - t % g.f1) = t - t % g.f1 := by unfold wrap64; omega
  rw [w2]
  have w3 : wrap64 (t - t % g.f1 - g.f0) = t - t % g.f1 - g.f0 := by unfold wrap64; omega
  rw [w3]
  unfold wrap64
  omega
theorem stN_mono (hg : chkG g = true) (i j : Nat) (h : i ≤ j) : stN g t i ≤ stN g t j := by
  obtain ⟨g0, g1, g2, g3, g4, g5, g6, g7⟩ := chkG_spec hg
  have a := Int.mul_le_mul_of_nonneg_left (show (i : Int) + 1 ≤ (j : Int) + 1 by omega) (show 0 ≤ g.f1 by omega)
  unfold stN
  omega
include hg h0 h1 in
theorem startL_skip (q : Nat) (hq : q ≤ 8) : ∀ i : Nat, i ≤ q → (∀ j : Nat, j < i → stN g t j < 0) → startL g t q 0 = startL g t (q - i) (i : Int) := by
  intro i
  induction i with
  | zero => intro _ _; rfl
  | succ i ih =>
    intro hi hj
    rw [ih (by omega) (fun j h => hj j (by omega))]
    rw [show q - i = (q - (i + 1)) + 1 by omega, startL, stAt_eq hg h0 h1 i (by omega), if_neg (by have := hj i (by omega); omega)]
    rfl
theorem rev_l1 (x : List Int) (hx : x.length ≤ 1000) : ∀ (n : Nat) (k : Nat) (y : List Int), n ≤ x.length → n < k → y.length + n ≤ 1000 → headgateref14_Starts.l1 k x y ((n : Int) - 1) = some (y ++ (x.take n).reverse, 0) := by
  intro n
  induction n with
  | zero =>
    intro k y _ hk _
    obtain ⟨k, rfl⟩ : ∃ j, k = j + 1 := ⟨k - 1, by omega⟩
    rw [headgateref14_Starts.l1, if_neg (by omega)]
    simp
  | succ n ih =>
    intro k y hn hk hy
    obtain ⟨k, rfl⟩ : ∃ j, k = j + 1 := ⟨k - 1, by omega⟩
    rw [show (((n + 1 : Nat)) : Int) - 1 = (n : Int) by omega]
    rw [headgateref14_Starts.l1, if_pos (by omega), if_pos (by omega), if_pos (by omega), if_pos (by omega), show wrap64 ((n : Int) - 1) = (n : Int) - 1 by unfold wrap64; omega, rdI x n (by omega)]
    rw [ih k (y ++ [x[n]]) (by omega) (by omega) (by simp; omega)]
    rw [List.take_succ_eq_append_getElem (show n < x.length by omega), List.reverse_append, List.append_assoc]
    rfl
theorem rev_j2 (x : List Int) (hx : x.length ≤ 1000) (k : Nat) (hk : x.length + 1 < k) : headgateref14_Starts.j2 k x = some (x.reverse, 0) := by
  obtain ⟨k, rfl⟩ : ∃ j, k = j + 1 := ⟨k - 1, by omega⟩
  rw [headgateref14_Starts.j2, show wrap64 ((x.length : Int) - 1) = (x.length : Int) - 1 by unfold wrap64; omega, rev_l1 x hx x.length k [] (by omega) (by omega) (by simp; omega)]
  simp
include hg h0 h1 in
theorem down_ref (q : Nat) (hq : q ≤ 8) (hf : g.f1 * (q : Int) = g.f0) : ∀ (i k : Nat), i ≤ q → i + 11 ≤ k →
    headgateref14_Starts.l0 k t (startL g t (q - i) (i : Int)).reverse (stN g t i - g.f1) g.f0 g.f1 g.f2 = some (startL g t q 0, 0) := by
  obtain ⟨g0, g1, g2, g3, g4, g5, g6, g7⟩ := chkG_spec hg
  obtain ⟨m0, m1, m2, m3⟩ := t_mod hg h0
  intro i
  induction i with
  | zero =>
    intro k _ hk
    obtain ⟨k, rfl⟩ : ∃ j, k = j + 1 := ⟨k - 1, by omega⟩
    have hl := startL_length g t q 0
    have ha : stN g t 0 - g.f1 = t - t % g.f1 - g.f0 := by
      unfold stN
      rw [show ((0 : Nat) : Int) + 1 = 1 from rfl, Int.mul_one]
      omega
    have hj := rev_j2 (startL g t q 0).reverse (by rw [List.length_reverse]; omega) k (by rw [List.length_reverse]; omega)
    rw [List.reverse_reverse] at hj
    show headgateref14_Starts.l0 (k + 1) t (startL g t q 0).reverse (stN g t 0 - g.f1) g.f0 g.f1 g.f2 = some (startL g t q 0, 0)
    rw [headgateref14_Starts.l0, ha]
    have e : wrap64 (t - t % g.f1 - g.f0 + g.f0) = t - t % g.f1 := by unfold wrap64; omega
    rw [e, if_neg (show ¬ (t - t % g.f1 > t) by omega)]
    split <;> exact hj
  | succ i ih =>
    intro k hi hk
    obtain ⟨k, rfl⟩ : ∃ j, k = j + 1 := ⟨k - 1, by omega⟩
    have hl := startL_length g t (q - (i + 1)) ((i + 1 : Nat) : Int)
    have hmul := mul_le8 hg (i + 1) (by omega)
    rw [show (((i + 1 : Nat)) : Int) = (i : Int) + 1 by omega] at hmul
    have ha : stN g t (i + 1) - g.f1 = stN g t i := by
      unfold stN
      rw [show (((i + 1 : Nat)) : Int) = (i : Int) + 1 by omega, Int.mul_add g.f1 ((i : Int) + 1) 1, Int.mul_one]
      omega
    have hst : stN g t i = t - t % g.f1 - g.f0 + g.f1 * ((i : Int) + 1) := rfl
    have hone : g.f1 ≤ g.f1 * ((i : Int) + 1) := by
      have := Int.mul_nonneg (show 0 ≤ g.f1 by omega) (show (0 : Int) ≤ (i : Int) by omega)
      rw [Int.mul_add, Int.mul_one]
      omega
    rw [headgateref14_Starts.l0, ha]
    by_cases c : stN g t i ≥ 0
    · have e : wrap64 (stN g t i + g.f0) = t - t % g.f1 + g.f1 * ((i : Int) + 1) := by unfold wrap64; omega
      rw [if_pos c, e, if_pos (by omega), if_pos (by rw [List.length_reverse]; omega)]
      have e2 : wrap64 (stN g t i - g.f1) = stN g t i - g.f1 := by unfold wrap64; omega
      rw [e2]
      have hx : startL g t (q - i) (i : Int) = stN g t i :: startL g t (q - (i + 1)) ((i + 1 : Nat) : Int) := by
        rw [show q - i = (q - (i + 1)) + 1 by omega, startL, stAt_eq hg h0 h1 i (by omega), if_pos c]
        rfl
      have := ih k (by omega) (by omega)
      rw [hx, List.reverse_cons] at this
      exact this
    · rw [if_neg c]
      have hsk := startL_skip hg h0 h1 q hq (i + 1) hi (fun j hj => by have := stN_mono (t := t) hg j i (by omega); omega)
      have hj := rev_j2 (startL g t (q - (i + 1)) ((i + 1 : Nat) : Int)).reverse (by rw [List.length_reverse]; omega) k (by rw [List.length_reverse]; omega)
      rw [List.reverse_reverse] at hj
      rw [hsk]
      exact hj
include hg h0 h1 in
/-- Both name the same beginnings. -/
theorem starts_ref : headgateref14_Starts.f 30 g.f0 g.f1 g.f2 t = some (startsP g t, 0) := by
  obtain ⟨g0, g1, g2, g3, g4, g5, g6, g7⟩ := chkG_spec hg
  obtain ⟨m0, m1, m2, m3⟩ := t_mod hg h0
  obtain ⟨q, q1, q8, qf, qw⟩ := grid_q hg
  have hm : headgateref14_May.f 30 g.f0 g.f1 g.f2 = some true := by
    have e := may_ref g hg
    have up : ∀ n, headgateref14_May.f (10 + n) g.f0 g.f1 g.f2 = some true := by
      intro n
      induction n with
      | zero => exact e
      | succ n ih => exact headgateref14_May.mono _ _ _ _ _ ih
    exact up 20
  unfold headgateref14_Starts.f
  rw [hm, Option.bind_some, if_pos rfl, if_neg (by omega), decide_eq_false (by omega), headgateref14_Starts.j0, if_neg (by decide), if_neg (by omega)]
  have e1 : Int.tdiv t g.f1 = t / g.f1 := Int.tdiv_eq_ediv_of_nonneg h0
  have ht : g.f1 * (t / g.f1) + t % g.f1 = t := Int.mul_ediv_add_emod _ _
  have hd0 : 0 ≤ t / g.f1 := Int.ediv_nonneg h0 (by omega)
  have hdle : t / g.f1 ≤ t := Int.ediv_le_self _ h0
  have w1 : wrap64 (Int.tdiv t g.f1) = t / g.f1 := by rw [e1]; unfold wrap64; omega
  have w2 : wrap64 (t / g.f1 * g.f1) = t - t % g.f1 := by rw [Int.mul_comm]; unfold wrap64; omega
  rw [w1, w2]
  have hs : stN g t q - g.f1 = t - t % g.f1 := by
    unfold stN
    rw [Int.mul_add, Int.mul_one]
    omega
  have := down_ref hg h0 h1 q q8 qf q 29 (by omega) (by omega)
  rw [hs, Nat.sub_self, startL, List.reverse_nil] at this
  rw [this]
  unfold startsP
  rw [qw, Int.toNat_natCast]
include hg h0 h1 in
theorem startsRef_calls (w : World) : Calls Try.prog 27 #[gridV g, .int .i64 t] w fun e w' => ∃ v0_ : Value, e = .returned (.tuple #[v0_, .int .i64 0]) ∧ Kd.R (Kd.int .i64) 3 w' w.heap.size (fun _ => True) v0_ (startsP g t) ∧ Below w.heap.size w w' :=
  headgateref14_Starts.calls 30 g.f0 g.f1 g.f2 t (startsP g t) 0 w (starts_ref hg h0 h1)
end
end Go.Proofs.Ytgipepjpkmlmaaa.P
namespace Go.Proofs.Ytgipepjpkmlmaaa.P
open Go.RowKit Go.Proofs.YtgipepjpkmlmaaaW.PrintWords Go.Proofs.YtgipepjpkmlmaaaW.PrintLast Go.Proofs.YtgipepjpkmlmaaaW.PrintMore
set_option linter.unusedVariables false
set_option linter.unusedSimpArgs false
theorem enc_shape : ∀ (f : Nat) (u : Int), 0 ≤ u → u < 128 ^ (f + 1) → ∃ pre b, encI f u = pre ++ [b] ∧ (∀ x ∈ pre, 128 ≤ x ∧ x ≤ 255) ∧ 0 ≤ b ∧ b < 128 ∧ pre.length ≤ f
  | 0, u, h0, h1 => ⟨[], u, rfl, fun x h => absurd h List.not_mem_nil, h0, by simpa using h1, Nat.le_refl _⟩
  | f + 1, u, h0, h1 => by
    rw [encI]
    by_cases c : u > 127
    · rw [if_pos c]
      have hp : (128 : Int) ^ (f + 1 + 1) = 128 ^ (f + 1) * 128 := Int.pow_succ _ _
      obtain ⟨pre, b, e, h2, h3, h4, h5⟩ := enc_shape f (u / 128) (by omega) (Int.ediv_lt_of_lt_mul (by omega) (by rw [← hp]; exact h1))
      refine ⟨(u % 128 + 128) :: pre, b, by rw [e]; rfl, fun x hx => ?_, h3, h4, by rw [List.length_cons]; omega⟩
      rcases List.mem_cons.1 hx with rfl | hx
      · omega
      · exact h2 x hx
    · rw [if_neg c]
      exact ⟨[], u, rfl, fun x h => absurd h List.not_mem_nil, h0, by omega, Nat.zero_le _⟩
theorem scan_of (s : ByteArray) (K : Nat) (h1 : K < s.size) (h2 : bt s (K : Int) < 128) (h3 : ∀ j, j < K → 128 ≤ bt s (j : Int)) : ∀ f k, k ≤ K → K < k + f → scanK s f k = some K
  | 0, k, _, h => by omega
  | f + 1, k, hk, h => by
    rw [scanK, if_neg (by omega)]
    by_cases e : k = K
    · subst e
      rw [if_neg (by omega)]
    · rw [if_pos (h3 k (by omega))]
      exact scan_of s K h1 h2 h3 f (k + 1) (by omega) (by omega)
theorem val_enc (u : Int) (h0 : 0 ≤ u) (h1 : u < 18446744073709551616) : valP (strOfNums (encI 9 u)) = (numU u, true) := by
  have h128 : u < 128 ^ (9 + 1) := by
    have e : (128 : Int) ^ (9 + 1) = 1180591620717411303424 := by decide
    omega
  obtain ⟨pre, b, e, hp, b0, b1, hl⟩ := enc_shape 9 u h0 h128
  obtain ⟨s, hs⟩ : ∃ s, strOfNums (encI 9 u) = s := ⟨_, rfl⟩
  have hb : encI 9 u = bts s s.size := by
    have h := (bytes_iff s (encI 9 u) (enc_range 9 u h0 h128) s.size (Nat.le_refl _)).1
    refine h ?_
    rw [hs, ByteArray.extract_zero_size]
  have hsz : s.size = pre.length + 1 := by
    have := congrArg List.length hb
    rw [e, bts_length, List.length_append, List.length_singleton] at this
    exact this.symm
  have hbt : ∀ j (hj : j < s.size), bt s (j : Int) = (pre ++ [b])[j]'(by rw [List.length_append, List.length_singleton, ← hsz]; exact hj) := by
    intro j hj
    have h : (pre ++ [b])[j]? = (bts s s.size)[j]? := by rw [← e, hb]
    rw [List.getElem?_eq_getElem (by rw [List.length_append, List.length_singleton, ← hsz]; exact hj)] at h
    unfold bts at h
    rw [List.getElem?_map, List.getElem?_range hj] at h
    exact (Option.some.inj h).symm
  have hsc : scanK s 10 0 = some pre.length := by
    refine scan_of s pre.length (by omega) ?_ (fun j hj => ?_) 10 0 (Nat.zero_le _) (by omega)
    · rw [hbt _ (by omega), List.getElem_append_right (Nat.le_refl _)]
      simp only [Nat.sub_self, List.getElem_singleton]
      exact b1
    · rw [hbt _ (by omega), List.getElem_append_left hj]
      exact (hp _ (List.getElem_mem hj)).1
  have hdec : decI (bts s (pre.length + 1)) = u := by
    rw [← hsz, ← hb]
    exact dec_enc 9 u h0 h128
  have hnb : ¬ badK s pre.length := by
    refine (end_iff s pre.length hsc).1 ?_
    rw [hdec, Int.emod_eq_of_lt h0 h1, hs, ← hsz, ByteArray.extract_zero_size]
  obtain ⟨v1, _⟩ := tk_val s 10 0 0 pre.length (by omega) hsc hnb rfl
  obtain ⟨e1, e2⟩ := (tk_some s 10 0 0 pre.length (by omega) hsc).2 hnb
  rw [hs]
  unfold valP
  rw [v1, e1, e2, hdec, ← hsz]
  congr 1
  simp
/-- A number's text is a number, and the same. -/
theorem put_val (v : Int) (h0 : -9223372036854775808 ≤ v) (h1 : v ≤ 9223372036854775807) : ∃ s, headgateref01_Put.f 11 v = some s ∧ valP s = (v, true) ∧ s.size ≤ 10 := by
  obtain ⟨u, hu0, hu1, hu⟩ : ∃ u : Int, 0 ≤ u ∧ u < 18446744073709551616 ∧ numU u = v := by
    by_cases c : 0 ≤ v
    · refine ⟨2 * v, by omega, by omega, ?_⟩
      unfold numU
      rw [Int.tdiv_eq_ediv_of_nonneg (by omega), Int.tmod_eq_emod_of_nonneg (by omega), if_neg (by omega), wraps_u64 _ (by omega) (by omega)]
      unfold wrap64
      omega
    · refine ⟨-2 * v - 1, by omega, by omega, ?_⟩
      unfold numU
      rw [Int.tdiv_eq_ediv_of_nonneg (by omega), Int.tmod_eq_emod_of_nonneg (by omega), if_pos (by omega), wraps_u64 _ (by omega) (by omega)]
      unfold wrap64
      omega
  refine ⟨strOfNums (encI 9 u), ?_, ?_, ?_⟩
  · rw [← hu]
    exact put_num u 11 hu0 hu1 (Nat.le_refl _)
  · rw [val_enc u hu0 hu1, hu]
  · have h128 : u < 128 ^ (9 + 1) := by
      have e : (128 : Int) ^ (9 + 1) = 1180591620717411303424 := by decide
      omega
    obtain ⟨pre, b, e, _, _, _, hl⟩ := enc_shape 9 u hu0 h128
    rw [e]
    unfold strOfNums
    simp [ByteArray.size]
    omega
end Go.Proofs.Ytgipepjpkmlmaaa.P
