import Derived.Test.YtgipepjpkmlmaaaQS1
import Derived.Test.YtgipepjpkmlmaaaQS2
import Derived.Test.YtgipepjpkmlmaaaQS3
import Derived.Test.YtgipepjpkmlmaaaQS4
import Derived.Test.YtgipepjpkmlmaaaQS5
import Derived.Test.YtgipepjpkmlmaaaQS6
import Derived.Test.YtgipepjpkmlmaaaQS7
import Derived.Test.YtgipepjpkmlmaaaQS8
import Derived.Test.YtgipepjpkmlmaaaQS9
import Derived.Test.YtgipepjpkmlmaaaQS10
import Derived.Test.YtgipepjpkmlmaaaQS11
import Derived.Test.YtgipepjpkmlmaaaQS12
import Derived.Test.YtgipepjpkmlmaaaQS13
import Derived.Test.YtgipepjpkmlmaaaQS14
import Derived.Test.YtgipepjpkmlmaaaQS15
import Derived.Test.YtgipepjpkmlmaaaQS16
import Derived.Test.YtgipepjpkmlmaaaQS17
import Derived.Test.YtgipepjpkmlmaaaQS18
namespace Go.Proofs.Ytgipepjpkmlmaaa.P
open Go.RowKit Go.Proofs.YtgipepjpkmlmaaaW.PrintWords Go.Proofs.YtgipepjpkmlmaaaW.PrintLast Go.Proofs.YtgipepjpkmlmaaaW.PrintMore
set_option linter.unusedVariables false
set_option linter.unusedSimpArgs false
/-- Do two windows stand at one place? -/
def sameW (x y : S46) : Bool := x.f0 == y.f0 && x.f1 == y.f1
theorem sameW_iff (x y : S46) : sameW x y = true ↔ x.f0 = y.f0 ∧ x.f1 = y.f1 := by
  unfold sameW
  simp only [Bool.and_eq_true, beq_iff_eq]
/-- The windows of a that b does not have, and those of b at places that a does not have. -/
def goneN (a b : List S46) : Nat := a.countP (fun x => !b.any (fun y => eqC x y))
def newN (a b : List S46) : Nat := b.countP (fun y => !a.any (fun x => sameW x y))
theorem any_no {α : Type} {l : List α} {p : α → Bool} (h : ∀ x ∈ l, p x = true → False) : (!l.any p) = true := by
  rw [Bool.not_eq_true']
  exact List.any_eq_false.2 (fun x hx hp => h x hx hp)
theorem walk_small (A B : List S46) : ∀ (n : Nat) (la lb : List S46), la.length + lb.length ≤ n → ordL la → ordL lb →
    (∀ x ∈ la, ∀ y ∈ B, eqC x y = true → y ∈ lb) → (∀ y ∈ lb, ∀ x ∈ A, sameW x y = true → x ∈ la) →
    (walkP la lb).length ≤ la.countP (fun x => !B.any (fun y => eqC x y)) + lb.countP (fun y => !A.any (fun x => sameW x y)) := by
  intro n
  induction n with
  | zero =>
    intro la lb hn _ _ _ _
    obtain rfl : la = [] := List.length_eq_zero_iff.1 (by omega)
    obtain rfl : lb = [] := List.length_eq_zero_iff.1 (by omega)
    rw [walk_nn]
    exact Nat.zero_le _
  | succ n ih =>
    intro la lb hn hoa hob h1 h2
    cases la with
    | nil =>
      cases lb with
      | nil => rw [walk_nn]; exact Nat.zero_le _
      | cons y lb =>
        have e : (y :: lb).countP (fun y => !A.any (fun x => sameW x y)) = lb.countP (fun y => !A.any (fun x => sameW x y)) + 1 := List.countP_cons_of_pos (p := fun y => !A.any (fun x => sameW x y)) (any_no (fun x hx hp => by have := h2 y List.mem_cons_self x hx hp; cases this))
        rw [walk_nc, List.length_cons, e]
        have h := ih [] lb (by simp only [List.length_cons, List.length_nil] at *; omega) hoa (List.Pairwise.of_cons hob) (fun x hx => by cases hx) (fun y' hy' x hx hp => by have := h2 y' (List.mem_cons_of_mem _ hy') x hx hp; cases this)
        omega
    | cons x la =>
      have hoa2 : ∀ d ∈ la, aheadB x d = true := fun d hd => List.rel_of_pairwise_cons hoa hd
      cases lb with
      | nil =>
        have e : (x :: la).countP (fun x => !B.any (fun y => eqC x y)) = la.countP (fun x => !B.any (fun y => eqC x y)) + 1 := List.countP_cons_of_pos (p := fun x => !B.any (fun y => eqC x y)) (any_no (fun y hy hp => by have := h1 x List.mem_cons_self y hy hp; cases this))
        rw [walk_cn, List.length_cons, e]
        have h := ih la [] (by simp only [List.length_cons, List.length_nil] at *; omega) (List.Pairwise.of_cons hoa) hob (fun x' hx' y hy hp => by have := h1 x' (List.mem_cons_of_mem _ hx') y hy hp; cases this) (fun y hy => by cases hy)
        omega
      | cons y lb =>
        have hob2 : ∀ d ∈ lb, aheadB y d = true := fun d hd => List.rel_of_pairwise_cons hob hd
        have eqp : ∀ {c d : S46}, eqC c d = true → c.f0 = d.f0 ∧ c.f1 = d.f1 := fun h => by rw [(eqC_iff _ _).1 h]; exact ⟨rfl, rfl⟩
        cases q1 : aheadB x y with
        | true =>
          have p1 := (ahead_iff _ _).1 q1
          have hx : (!B.any (fun y' => eqC x y')) = true := any_no (fun y' hy' hp => by
            have e := eqp hp
            rcases List.mem_cons.1 (h1 x List.mem_cons_self y' hy' hp) with rfl | hm
            · omega
            · have := (ahead_iff _ _).1 (hob2 y' hm)
              omega)
          have e : (x :: la).countP (fun x => !B.any (fun y => eqC x y)) = la.countP (fun x => !B.any (fun y => eqC x y)) + 1 := List.countP_cons_of_pos (p := fun x => !B.any (fun y => eqC x y)) hx
          rw [walk_l q1, List.length_cons, e]
          have h := ih la (y :: lb) (by simp only [List.length_cons] at *; omega) (List.Pairwise.of_cons hoa) hob (fun x' hx' => h1 x' (List.mem_cons_of_mem _ hx'))
            (fun y' hy' x' hx' hp => by
              rcases List.mem_cons.1 (h2 y' hy' x' hx' hp) with rfl | hm
              · have e := (sameW_iff _ _).1 hp
                rcases List.mem_cons.1 hy' with rfl | hm
                · omega
                · have := (ahead_iff _ _).1 (hob2 y' hm)
                  omega
              · exact hm)
          omega
        | false =>
          have p1 := (ahead_no _ _).1 q1
          cases q2 : aheadB y x with
          | true =>
            have p2 := (ahead_iff _ _).1 q2
            have hy : (!A.any (fun x' => sameW x' y)) = true := any_no (fun x' hx' hp => by
              have e := (sameW_iff _ _).1 hp
              rcases List.mem_cons.1 (h2 y List.mem_cons_self x' hx' hp) with rfl | hm
              · omega
              · have := (ahead_iff _ _).1 (hoa2 x' hm)
                omega)
            have e : (y :: lb).countP (fun y => !A.any (fun x => sameW x y)) = lb.countP (fun y => !A.any (fun x => sameW x y)) + 1 := List.countP_cons_of_pos (p := fun y => !A.any (fun x => sameW x y)) hy
            rw [walk_r q1 q2, List.length_cons, e]
            have h := ih (x :: la) lb (by simp only [List.length_cons] at *; omega) hoa (List.Pairwise.of_cons hob)
              (fun x' hx' y' hy' hp => by
                rcases List.mem_cons.1 (h1 x' hx' y' hy' hp) with rfl | hm
                · have e := eqp hp
                  rcases List.mem_cons.1 hx' with rfl | hm
                  · omega
                  · have := (ahead_iff _ _).1 (hoa2 x' hm)
                    omega
                · exact hm)
              (fun y' hy' => h2 y' (List.mem_cons_of_mem _ hy'))
            omega
          | false =>
            have p2 := (ahead_no _ _).1 q2
            have ha : ∀ x' ∈ la, ∀ y' ∈ B, eqC x' y' = true → y' ∈ lb := fun x' hx' y' hy' hp => by
              rcases List.mem_cons.1 (h1 x' (List.mem_cons_of_mem _ hx') y' hy' hp) with rfl | hm
              · have e := eqp hp
                have := (ahead_iff _ _).1 (hoa2 x' hx')
                omega
              · exact hm
            have hb : ∀ y' ∈ lb, ∀ x' ∈ A, sameW x' y' = true → x' ∈ la := fun y' hy' x' hx' hp => by
              rcases List.mem_cons.1 (h2 y' (List.mem_cons_of_mem _ hy') x' hx' hp) with rfl | hm
              · have e := (sameW_iff _ _).1 hp
                have := (ahead_iff _ _).1 (hob2 y' hy')
                omega
              · exact hm
            have h := ih la lb (by simp only [List.length_cons] at *; omega) (List.Pairwise.of_cons hoa) (List.Pairwise.of_cons hob) ha hb
            cases q3 : eqC x y with
            | true =>
              rw [walk_e q1 q2 q3]
              have k1 := (List.sublist_cons_self x la).countP_le (p := fun x => !B.any (fun y => eqC x y))
              have k2 := (List.sublist_cons_self y lb).countP_le (p := fun y => !A.any (fun x => sameW x y))
              omega
            | false =>
              have hx : (!B.any (fun y' => eqC x y')) = true := any_no (fun y' hy' hp => by
                have e := eqp hp
                rcases List.mem_cons.1 (h1 x List.mem_cons_self y' hy' hp) with rfl | hm
                · rw [q3] at hp; cases hp
                · have := (ahead_iff _ _).1 (hob2 y' hm)
                  omega)
              have e : (x :: la).countP (fun x => !B.any (fun y => eqC x y)) = la.countP (fun x => !B.any (fun y => eqC x y)) + 1 := List.countP_cons_of_pos (p := fun x => !B.any (fun y => eqC x y)) hx
              rw [walk_c q1 q2 q3, List.length_cons, e]
              have k2 := (List.sublist_cons_self y lb).countP_le (p := fun y => !A.any (fun x => sameW x y))
              omega
/-- No more records are told than windows came, went or changed, and one. -/
theorem diff_small (a b : S28) (ha : ordL a.f4) (hb : ordL b.f4) : (diffP a b).length ≤ 1 + goneN a.f4 b.f4 + newN a.f4 b.f4 := by
  unfold diffP headP
  rw [List.length_append]
  have := walk_small a.f4 b.f4 _ a.f4 b.f4 (Nat.le_refl _) ha hb (fun _ _ _ h _ => h) (fun _ _ _ h _ => h)
  unfold goneN newN
  split <;> simp <;> omega
/-- A record that may be. -/
def mayRec (r : S50) : Bool := decide (0 ≤ r.f0) && (decide (r.f0 ≤ 1048576) && (decide (0 ≤ r.f1) && (decide (r.f1 ≤ 1099511627776) && decide (r.f2.size ≤ 512))))
theorem mayRec_iff (r : S50) : mayRec r = true ↔ 0 ≤ r.f0 ∧ r.f0 ≤ 1048576 ∧ 0 ≤ r.f1 ∧ r.f1 ≤ 1099511627776 ∧ r.f2.size ≤ 512 := by
  unfold mayRec
  simp only [Bool.and_eq_true, decide_eq_true_eq]
theorem walk_rec (a b : List S46) (ha : ∀ c ∈ a, MayC c) (hb : ∀ c ∈ b, MayC c ∧ cellR c) : ∀ r ∈ walkP a b, mayRec r = true := by
  have g : ∀ c, MayC c → mayRec (tellG c) = true := fun c h => (mayRec_iff _).2 ⟨h.k0, h.k1, h.t0, h.t1, Nat.le_trans (numT_size 2 (by omega) (by omega)) (by omega)⟩
  have t : ∀ c, MayC c → cellR c → mayRec (tellH c) = true := fun c h hr => (mayRec_iff _).2 ⟨h.k0, h.k1, h.t0, h.t1, by
    have h1 := numT_size 1 (by omega) (by omega)
    have h2 := encT_size c.f2 hr.ag
    show (numT 1 ++ encT c.f2).size ≤ 512
    rw [ByteArray.size_append]
    omega⟩
  fun_induction walkP a b with
  | case1 => intro r hr; cases hr
  | case2 x a ih =>
    intro r hr
    rcases List.mem_cons.1 hr with rfl | hr
    · exact g x (ha x List.mem_cons_self)
    · exact ih (fun c h => ha c (List.mem_cons_of_mem _ h)) hb r hr
  | case3 y b ih =>
    intro r hr
    have hy := hb y List.mem_cons_self
    rcases List.mem_cons.1 hr with rfl | hr
    · exact t y hy.1 hy.2
    · exact ih ha (fun c h => hb c (List.mem_cons_of_mem _ h)) r hr
  | case4 x a y b q ih =>
    intro r hr
    rcases List.mem_cons.1 hr with rfl | hr
    · exact g x (ha x List.mem_cons_self)
    · exact ih (fun c h => ha c (List.mem_cons_of_mem _ h)) hb r hr
  | case5 x a y b q q2 ih =>
    intro r hr
    have hy := hb y List.mem_cons_self
    rcases List.mem_cons.1 hr with rfl | hr
    · exact t y hy.1 hy.2
    · exact ih ha (fun c h => hb c (List.mem_cons_of_mem _ h)) r hr
  | case6 x a y b q q2 q3 ih => exact ih (fun c h => ha c (List.mem_cons_of_mem _ h)) (fun c h => hb c (List.mem_cons_of_mem _ h))
  | case7 x a y b q q2 q3 ih =>
    intro r hr
    have hy := hb y List.mem_cons_self
    rcases List.mem_cons.1 hr with rfl | hr
    · exact t y hy.1 hy.2
    · exact ih (fun c h => ha c (List.mem_cons_of_mem _ h)) (fun c h => hb c (List.mem_cons_of_mem _ h)) r hr
theorem diff_rec (a b : S28) (hb : stateR b) (ha : MayP a) (hm : MayP b) : ∀ r ∈ diffP a b, mayRec r = true := by
  intro r hr
  unfold diffP headP at hr
  rcases List.mem_append.1 hr with h | h
  · split at h
    · cases h
    · obtain rfl := List.mem_singleton.1 h
      refine (mayRec_iff _).2 ⟨Int.le_refl _, (show (0 : Int) ≤ 1048576 by decide), Int.le_refl _, (show (0 : Int) ≤ 1099511627776 by decide), ?_⟩
      have h1 := numsT_size (headL b) (headL_R hb)
      show (numsT (headL b)).size ≤ 512
      have h2 : (headL b).length = 5 := rfl
      omega
  · exact walk_rec a.f4 b.f4 ha.cs (fun c h => ⟨hm.cs c h, hb.cs c h⟩) r h
end Go.Proofs.Ytgipepjpkmlmaaa.P
