import Derived.Test.YtgipepjpkmlmaaaF0
import Derived.Lib.Hide
import Derived.Test.YtgipepjpkmlmaaaM1
namespace Go.Proofs.Ytgipepjpkmlmaaa.P
set_option linter.unusedVariables false
set_option linter.unusedSimpArgs false
section
open Go.RowKit Go.Proofs.YtgipepjpkmlmaaaW.PrintWords Go.Proofs.YtgipepjpkmlmaaaW.PrintLast Go.Proofs.YtgipepjpkmlmaaaW.PrintMore
theorem eql_nil26 (w : World) (a : Option Addr) (n c : Nat) : (binOp .eql 26 (.slice a n c) (.slice none 0 0)).run Try.prog w = .ok (.bool a.isNone) w := by
  have h := Try.underlying26
  simp [binOp, h]
  have h3 := run_underlying (P := Try.prog) h
  have hm : Op.maxDepth = (Op.maxDepth - 1) + 1 := rfl
  cases a <;> (simp only [Op.equal]; rw [hm, Op.equalIn]; simp [h3])

/-- An empty row of one's own. -/
theorem R_empty {α : Type} (d : Kd α) {e B g : Nat} {w : World} {ok : Nat → Prop} (h : w.heap[g]? = some (.cells #[] e (0, 0))) (hB : B ≤ g) (ho : ok g) : Kd.R d e w B ok (.slice (some ⟨g, 0, none⟩) 0 0) [] := by
  refine ⟨fun k hk => ?_, [], ⟨by simp, .inr ⟨g, 0, #[], rfl, hB, h, (by simp), (by unfold maxLen; simp), (by simp), (by simp)⟩⟩, ?_⟩
  · obtain rfl : g = k := by simpa [Value.ownBlock] using hk
    exact ho
  · exact ⟨by simp, fun j p hj => by simp at hj⟩
set_option maxHeartbeats 4000000 in
set_option maxRecDepth 100000 in
theorem clone_calls (A : Option Addr) (c : Nat) (l : List S46) (w : World) (hr : Kd.C k46 w A l.length l) (hc : l.length ≤ c) (hl : l.length ≤ 1000000) (hn : A = none → l = [] ∧ c = 0) :
    Calls Try.prog 42 #[.slice A l.length c] w fun e w' => ∃ v, e = .returned v ∧ Kd.R k46 46 w' w.heap.size (fun _ => True) v l ∧ Below w.heap.size w w' := by
  cases A with
  | none =>
    obtain ⟨rfl, rfl⟩ := hn rfl
    have hq : (binOp .eql 26 (.slice none 0 0) (.slice none 0 0)).run Try.prog w = .ok (.bool true) w := eql_nil26 w none 0 0
    go_enter Try.func42, Try.ntmps42
    go_wp2
    go_ret
    exact ⟨_, rfl, Kd.R_nil _ _ _ _ _, Below.refl _ _⟩
  | some a =>
    have hq : (binOp .eql 26 (.slice (some a) l.length c) (.slice none 0 0)).run Try.prog w = .ok (.bool false) w := eql_nil26 w (some a) l.length c
    have hb1 : Below w.heap.size w (w.alloc (.cells #[] 46)) := (Below.refl _ _).alloc (Nat.le_refl _) _
    have hE : Kd.R k46 46 (w.alloc (.cells #[] 46)) w.heap.size (fun _ => True) (.slice (some ⟨w.heap.size, 0, none⟩) 0 0) [] := R_empty k46 (heap_alloc_new _ _) (Nat.le_refl _) trivial
    have hr1 := Kd.C_below hr hb1
    go_enter Try.func42, Try.ntmps42
    go_wp2_with (first | ((with_reducible refine gate_builtin (b := .append) (xs := #[.tmp 5, .tmp 6]) rfl ?_); at_builtin; refine Kd.R_append_rows k46 (w0 := w) w.heap.size rfl (.tmp 5) (.tmp 6) 26 46 (.agg #[(.int .i64 0), (.int .i64 0), (.int .i64 0), (.int .i64 0), (.int .i64 0), (.int .i64 0), (.int .i64 0), (.int .i64 0), (.int .i64 0), (.int .i64 0), (.int .i64 0), (.int .i64 0)]) 96 rfl Try.underlying26 info46 rfl (by decide) (by omega) (.slice (some ⟨w.heap.size, 0, none⟩) 0 0) [] l _ _ _ (fun _ => True) (fun _ => False) rfl rfl hE hr1 (fun _ _ h => by obtain rfl := k46_open h; exact k46_mkM _ _ _ _) (fun _ h => h.elim) (fun _ _ => trivial) hb1 hb1.size ?aL ?_; (case aL => simp; omega); intro v1 w1 ho hb hg hat; rw [List.nil_append] at ho))
    go_ret
    exact ⟨_, rfl, ho, hb⟩
end
section
open Go.RowKit Go.Proofs.YtgipepjpkmlmaaaW.PrintWords Go.Proofs.YtgipepjpkmlmaaaW.PrintLast Go.Proofs.YtgipepjpkmlmaaaW.PrintMore
section
set_option maxRecDepth 100000
theorem cm0 (w : World) : (binOp .mul 135 (.complex .f64 4607182418800017408 0) (.complex .f64 0 4607182418800017408)).run Try.prog w = .ok (.complex .f64 0 4607182418800017408) w := by kernel_rfl
theorem cm1 (w : World) : (binOp .mul 135 (.complex .f64 0 4607182418800017408) (.complex .f64 0 4607182418800017408)).run Try.prog w = .ok (.complex .f64 13830554455654793216 0) w := by kernel_rfl
theorem cm2 (w : World) : (binOp .mul 135 (.complex .f64 13830554455654793216 0) (.complex .f64 0 4607182418800017408)).run Try.prog w = .ok (.complex .f64 9223372036854775808 13830554455654793216) w := by kernel_rfl
theorem cv1 (w : World) : (convert 137 3 (.float .f64 4607182418800017408)).run Try.prog w = .ok (.int .i64 1) w := by kernel_rfl
theorem cv0 (w : World) : (convert 137 3 (.float .f64 0)).run Try.prog w = .ok (.int .i64 0) w := by kernel_rfl
theorem cvm (w : World) : (convert 137 3 (.float .f64 13830554455654793216)).run Try.prog w = .ok (.int .i64 (-1)) w := by kernel_rfl
theorem cvz (w : World) : (convert 137 3 (.float .f64 9223372036854775808)).run Try.prog w = .ok (.int .i64 0) w := by kernel_rfl
end
theorem and3 (v : Int) : bits .and .i64 v 3 = v % 4 := by
  have h : (BitVec.ofInt 64 v &&& BitVec.ofInt 64 3).toNat = (v % 4).toNat := by
    have h3 : (BitVec.ofInt 64 3).toNat = 2 ^ 2 - 1 := by decide
    rw [BitVec.toNat_and, h3, Nat.and_two_pow_sub_one_eq_mod, BitVec.toNat_ofInt]
    omega
  have h2 : bits .and .i64 v 3 = IntKind.i64.wrap ((BitVec.ofInt 64 v &&& BitVec.ofInt 64 3).toNat : Int) := rfl
  rw [h2, h]
  have h4 : ((v % 4).toNat : Int) = v % 4 := by omega
  rw [h4]
  have h0 : 0 ≤ v % 4 := by omega
  have h5 : v % 4 < 4 := by omega
  simp only [i64_w]
  unfold wrap64
  omega
/-- i to the n-th. -/
def cxV : Nat → Value
  | 0 => .complex .f64 4607182418800017408 0
  | 1 => .complex .f64 0 4607182418800017408
  | 2 => .complex .f64 13830554455654793216 0
  | _ => .complex .f64 9223372036854775808 13830554455654793216
set_option maxHeartbeats 8000000 in
set_option maxRecDepth 100000 in
theorem turn_calls (v : Int) (w : World) : Calls Try.prog 96 #[.int .i64 v] w fun e w' => e = .returned (cxV (v % 4).toNat) ∧ w' = w := by
  have hq := and3 v
  obtain ⟨q, hqq⟩ : ∃ q : Nat, (v % 4).toNat = q := ⟨_, rfl⟩
  have hq4 : q < 4 := by omega
  have hv : v % 4 = (q : Int) := by omega
  rw [hqq]
  rw [hv] at hq
  clear hqq hv
  have c0 := cm0
  have c1 := cm1
  have c2 := cm2
  go_enter Try.func96, Try.ntmps96
  go_wp2
  go_loopg [6, 3] q (fun kq v6 v3 wr => ∃ (i : Nat), v6 = .int .i64 (i : Int) ∧ i ≤ q ∧ q - i ≤ kq ∧ v3 = cxV i ∧ wr = w)
  case atStart => exact ⟨0, rfl, Nat.zero_le _, by omega, rfl, rfl⟩
  case round =>
    obtain ⟨i, rfl, hiq, hik, rfl, rfl⟩ := hrel
    by_cases hlt : i < q
    rotate_left
    · have e : i = q := by omega
      subst e
      have d : decide ((i : Int) < (i : Int)) = false := decide_eq_false (by omega)
      go_wp2
      go_ret
      exact ⟨rfl, rfl⟩
    have d : decide ((i : Int) < (q : Int)) = true := decide_eq_true (by omega)
    cases gk with
    | zero => omega
    | succ gk =>
    have hi3 : i = 0 ∨ i = 1 ∨ i = 2 := by omega
    rcases hi3 with rfl | rfl | rfl
    · simp only [cxV]
      go_wp2
      go_roundg gk
      case measure => omega
      case rel => exact ⟨1, rfl, by omega, by omega, rfl, rfl⟩
    · simp only [cxV]
      go_wp2
      go_roundg gk
      case measure => omega
      case rel => exact ⟨2, rfl, by omega, by omega, rfl, rfl⟩
    · simp only [cxV]
      go_wp2
      go_roundg gk
      case measure => omega
      case rel => exact ⟨3, rfl, by omega, by omega, rfl, rfl⟩
end
section
open Go.RowKit Go.Proofs.YtgipepjpkmlmaaaW.PrintWords Go.Proofs.YtgipepjpkmlmaaaW.PrintLast Go.Proofs.YtgipepjpkmlmaaaW.PrintMore
/-- A sum that stands still at the ends. -/
def plusP (a b : Int) : Int := if 0 < b ∧ wrap64 (a + b) < a then 9223372036854775807 else if b < 0 ∧ a < wrap64 (a + b) then -9223372036854775808 else wrap64 (a + b)
theorem plus_calls (a b : Int) (w : World) : Calls Try.prog 94 #[.int .i64 a, .int .i64 b] w fun e w' => e = .returned (.int .i64 (plusP a b)) ∧ w' = w := by
  obtain ⟨r, hr⟩ : ∃ r, plusP a b = r := ⟨_, rfl⟩
  rw [hr]
  unfold plusP at hr
  obtain ⟨s, hs⟩ : ∃ s, wrap64 (a + b) = s := ⟨_, rfl⟩
  rw [hs] at hr
  by_cases c1 : 0 < b
  · have d1 : decide (0 < b) = true := decide_eq_true c1
    have d3 : decide (b < 0) = false := decide_eq_false (by omega)
    by_cases c2 : s < a
    · have d2 : decide (s < a) = true := decide_eq_true c2
      rw [if_pos ⟨c1, c2⟩] at hr
      subst hr
      clear c1 c2
      go_enter Try.func94, Try.ntmps94
      go_wp2
      go_ret
      exact ⟨by first | rfl | (rw [← hs]; rfl), rfl⟩
    · have d2 : decide (s < a) = false := decide_eq_false c2
      rw [if_neg (fun q => c2 q.2), if_neg (fun q => by omega)] at hr
      subst hr
      clear c1 c2
      go_enter Try.func94, Try.ntmps94
      go_wp2
      go_ret
      exact ⟨by first | rfl | (rw [← hs]; rfl), rfl⟩
  · have d1 : decide (0 < b) = false := decide_eq_false c1
    rw [if_neg (fun q => c1 q.1)] at hr
    by_cases c3 : b < 0
    · have d3 : decide (b < 0) = true := decide_eq_true c3
      by_cases c4 : a < s
      · have d4 : decide (a < s) = true := decide_eq_true c4
        rw [if_pos ⟨c3, c4⟩] at hr
        subst hr
        clear c1 c3 c4
        go_enter Try.func94, Try.ntmps94
        go_wp2
        go_ret
        exact ⟨by first | rfl | (rw [← hs]; rfl), rfl⟩
      · have d4 : decide (a < s) = false := decide_eq_false c4
        rw [if_neg (fun q => c4 q.2)] at hr
        subst hr
        clear c1 c3 c4
        go_enter Try.func94, Try.ntmps94
        go_wp2
        go_ret
        exact ⟨by first | rfl | (rw [← hs]; rfl), rfl⟩
    · have d3 : decide (b < 0) = false := decide_eq_false c3
      rw [if_neg (fun q => c3 q.1)] at hr
      subst hr
      clear c1 c3
      go_enter Try.func94, Try.ntmps94
      go_wp2
      go_ret
      exact ⟨by first | rfl | (rw [← hs]; rfl), rfl⟩
/-- The sort of a number. -/
def sortN (v : Int) : Nat := if v < 0 then 0 else if v < 10 then 1 else if v < 100 then 2 else 3
theorem sort_calls (v : Int) (w : World) : Calls Try.prog 95 #[.int .i64 v] w fun e w' => e = .returned (.int .i64 (sortN v : Nat)) ∧ w' = w := by
  obtain ⟨r, hr⟩ : ∃ r, sortN v = r := ⟨_, rfl⟩
  rw [hr]
  unfold sortN at hr
  by_cases c1 : v < 0
  · have d1 : decide (v < 0) = true := decide_eq_true c1
    rw [if_pos c1] at hr
    subst hr
    clear c1
    go_enter Try.func95, Try.ntmps95
    go_wp2
    go_ret
    exact ⟨rfl, rfl⟩
  have d1 : decide (v < 0) = false := decide_eq_false c1
  rw [if_neg c1] at hr
  by_cases c2 : v < 10
  · have d2 : decide (v < 10) = true := decide_eq_true c2
    rw [if_pos c2] at hr
    subst hr
    clear c1 c2
    go_enter Try.func95, Try.ntmps95
    go_wp2
    go_ret
    exact ⟨rfl, rfl⟩
  have d2 : decide (v < 10) = false := decide_eq_false c2
  rw [if_neg c2] at hr
  by_cases c3 : v < 100
  · have d3 : decide (v < 100) = true := decide_eq_true c3
    rw [if_pos c3] at hr
    subst hr
    clear c1 c2 c3
    go_enter Try.func95, Try.ntmps95
    go_wp2
    go_ret
    exact ⟨rfl, rfl⟩
  have d3 : decide (v < 100) = false := decide_eq_false c3
  rw [if_neg c3] at hr
  subst hr
  clear c1 c2 c3
  go_enter Try.func95, Try.ntmps95
  go_wp2
  go_ret
  exact ⟨rfl, rfl⟩
end
section
open Go.RowKit Go.Proofs.YtgipepjpkmlmaaaW.PrintWords Go.Proofs.YtgipepjpkmlmaaaW.PrintLast Go.Proofs.YtgipepjpkmlmaaaW.PrintMore
attribute [local go_sem] max2_int min2_int max_two min_two
set_option linter.unusedVariables false
set_option linter.unusedSimpArgs false
def setH (h : S42) (k : Nat) (v : Int) : S42 := match k with
  | 0 => ⟨v, h.f1, h.f2, h.f3⟩
  | 1 => ⟨h.f0, v, h.f2, h.f3⟩
  | 2 => ⟨h.f0, h.f1, v, h.f3⟩
  | _ => ⟨h.f0, h.f1, h.f2, v⟩
def reQ (q : Nat) : Int := match q with | 0 => 1 | 2 => -1 | _ => 0
def imQ (q : Nat) : Int := match q with | 1 => 1 | 3 => -1 | _ => 0
/-- What fold.Add answers. -/
def addP (a : S44) (v : Int) : S44 :=
  ⟨plusP a.f0 1, plusP a.f1 v, mn (if a.f0 = 0 then v else a.f2) v, mx (if a.f0 = 0 then v else a.f3) v, setH a.f4 (sortN v) (plusP (hist a.f4 (sortN v)) 1), plusP a.f5 (reQ (v % 4).toNat), plusP a.f6 (imQ (v % 4).toNat)⟩
theorem cxV_parts (q : Nat) (hq : q < 4) : ∃ rb ib, cxV q = .complex .f64 rb ib ∧ (∀ w, (convert 137 3 (.float .f64 rb)).run Try.prog w = .ok (.int .i64 (reQ q)) w) ∧ (∀ w, (convert 137 3 (.float .f64 ib)).run Try.prog w = .ok (.int .i64 (imQ q)) w) := by
  have h : q = 0 ∨ q = 1 ∨ q = 2 ∨ q = 3 := by omega
  rcases h with rfl | rfl | rfl | rfl
  · exact ⟨_, _, rfl, cv1, cv0⟩
  · exact ⟨_, _, rfl, cv0, cv1⟩
  · exact ⟨_, _, rfl, cvm, cv0⟩
  · exact ⟨_, _, rfl, cvz, cvm⟩
set_option maxHeartbeats 80000000 in
set_option maxRecDepth 100000 in
theorem add_calls (a : S44) (v : Int) (w : World) : Calls Try.prog 86 #[aggV a, .int .i64 v] w fun e w' => e = .returned (aggV (addP a v)) ∧ Below w.heap.size w w' := by
  obtain ⟨A', hA⟩ : ∃ A', addP a v = A' := ⟨_, rfl⟩
  rw [hA]
  obtain ⟨c, s, m, x, ⟨h0, h1, h2, h3⟩, re, im⟩ := a
  unfold addP at hA
  simp only at hA
  have hu := Try.underlying44
  have hz : ∀ w, (zeroValue 44).run Try.prog w = .ok (.agg #[.int .i64 0, .int .i64 0, .int .i64 0, .int .i64 0, .int .i64 0, .int .i64 0, .int .i64 0, .int .i64 0, .int .i64 0, .int .i64 0]) w := fun w => by kernel_rfl
  have hsort := sort_calls v
  have hk4 : sortN v = 0 ∨ sortN v = 1 ∨ sortN v = 2 ∨ sortN v = 3 := by unfold sortN; split <;> (try split) <;> (try split) <;> simp
  have hturn := turn_calls v
  have hq4 : (v % 4).toNat < 4 := by omega
  revert hk4 hsort hA hturn hq4
  generalize sortN v = k
  generalize (v % 4).toNat = q
  intro hA hsort hk4 hturn hq4
  obtain ⟨rb, ib, hcx, hre, him⟩ := cxV_parts q hq4
  rw [hcx] at hturn
  clear hcx hq4
  have hreal : ∀ w, (Builtin.real_ #[135] 137 #[.complex .f64 rb ib]).run Try.prog w = .ok (.float .f64 rb) w := fun _ => rfl
  have himag : ∀ w, (Builtin.imag_ #[135] 137 #[.complex .f64 rb ib]).run Try.prog w = .ok (.float .f64 ib) w := fun _ => rfl
  obtain ⟨H, hH⟩ : ∃ H, setH ⟨h0, h1, h2, h3⟩ k (plusP (hist ⟨h0, h1, h2, h3⟩ k) 1) = H := ⟨_, rfl⟩
  rw [hH] at hA
  obtain ⟨H0, H1, H2, H3⟩ := H
  obtain ⟨m1, hm1⟩ : ∃ j, (if c = 0 then v else m) = j := ⟨_, rfl⟩
  obtain ⟨x1, hx1⟩ : ∃ j, (if c = 0 then v else x) = j := ⟨_, rfl⟩
  rw [hm1, hx1] at hA
  obtain ⟨m2, hm2⟩ : ∃ j, mn m1 v = j := ⟨_, rfl⟩
  obtain ⟨x2, hx2⟩ : ∃ j, mx x1 v = j := ⟨_, rfl⟩
  rw [hm2, hx2] at hA
  have HA := Lib.hid hA
  have HH := Lib.hid hH
  have em : (if v < m1 then v else m1) = m2 := hm2
  have ex : (if x1 < v then v else x1) = x2 := hx2
  have HM := Lib.hid hm1
  have HX := Lib.hid hx1
  clear hA hH hm2 hx2 hm1 hx1
  go_enter Try.func86, Try.ntmps86
  go_upto_if 8 with fail
  go_cut [2, 4] from 6 (fun v2 v4 wc => v2 = .pointer (some ⟨w.heap.size, 0, none⟩) ∧ v4 = .pointer (some ⟨w.heap.size + 1, 0, none⟩) ∧ wc = (w.alloc (.cells #[.int .i64 c, .int .i64 s, .int .i64 m1, .int .i64 x1, .int .i64 h0, .int .i64 h1, .int .i64 h2, .int .i64 h3, .int .i64 re, .int .i64 im] 44)).alloc (.cells #[.int .i64 0, .int .i64 0, .int .i64 0, .int .i64 0, .int .i64 0, .int .i64 0, .int .i64 0, .int .i64 0, .int .i64 0, .int .i64 0] 44))
  case first =>
    by_cases c0 : c = 0
    · have d0 : (c == 0) = true := beq_iff_eq.2 c0
      have hm := HM.out
      have hx := HX.out
      rw [if_pos c0] at hm hx
      clear c0
      subst hm hx
      go_wp2
      go_meet
      case rel => exact ⟨rfl, rfl, rfl⟩
    · have d0 : (c == 0) = false := beq_eq_false_iff_ne.2 c0
      have hm := HM.out
      have hx := HX.out
      rw [if_neg c0] at hm hx
      clear c0
      subst hm hx
      go_wp2
      go_meet
      case rel => exact ⟨rfl, rfl, rfl⟩
  case rest =>
    obtain ⟨rfl, rfl, rfl⟩ := hcut
    clear HM HX
    go_upto_region 6 with (first | (go_at_call 94; go_loud ((with_reducible refine (plus_calls _ _ _).mono ?_); rintro e w' ⟨rfl, rfl⟩)))
    go_cut [2, 4] from 6 (fun v2 v4 wc => v2 = .pointer (some ⟨w.heap.size, 0, none⟩) ∧ v4 = .pointer (some ⟨w.heap.size + 1, 0, none⟩) ∧ wc = (w.alloc (.cells #[.int .i64 (plusP c 1), .int .i64 (plusP s v), .int .i64 m2, .int .i64 x2, .int .i64 H0, .int .i64 H1, .int .i64 H2, .int .i64 H3, .int .i64 re, .int .i64 im] 44)).alloc (.cells #[.int .i64 0, .int .i64 0, .int .i64 0, .int .i64 0, .int .i64 0, .int .i64 0, .int .i64 0, .int .i64 0, .int .i64 0, .int .i64 0] 44))
    case first =>
      rcases hk4 with rfl | rfl | rfl | rfl
      · have hh := HH.out
        simp only [setH, hist, S42.mk.injEq] at hh
        obtain ⟨rfl, rfl, rfl, rfl⟩ := hh
        go_wp2_with (first | (go_at_call 94; go_loud ((with_reducible refine (plus_calls _ _ _).mono ?_); rintro e w' ⟨rfl, rfl⟩)) | (go_at_call 95; go_loud ((with_reducible refine (hsort _).mono ?_); rintro e w' ⟨rfl, rfl⟩)))
        go_meet
        case rel => exact ⟨rfl, rfl, rfl⟩
      · have hh := HH.out
        simp only [setH, hist, S42.mk.injEq] at hh
        obtain ⟨rfl, rfl, rfl, rfl⟩ := hh
        go_wp2_with (first | (go_at_call 94; go_loud ((with_reducible refine (plus_calls _ _ _).mono ?_); rintro e w' ⟨rfl, rfl⟩)) | (go_at_call 95; go_loud ((with_reducible refine (hsort _).mono ?_); rintro e w' ⟨rfl, rfl⟩)))
        go_meet
        case rel => exact ⟨rfl, rfl, rfl⟩
      · have hh := HH.out
        simp only [setH, hist, S42.mk.injEq] at hh
        obtain ⟨rfl, rfl, rfl, rfl⟩ := hh
        go_wp2_with (first | (go_at_call 94; go_loud ((with_reducible refine (plus_calls _ _ _).mono ?_); rintro e w' ⟨rfl, rfl⟩)) | (go_at_call 95; go_loud ((with_reducible refine (hsort _).mono ?_); rintro e w' ⟨rfl, rfl⟩)))
        go_meet
        case rel => exact ⟨rfl, rfl, rfl⟩
      · have hh := HH.out
        simp only [setH, hist, S42.mk.injEq] at hh
        obtain ⟨rfl, rfl, rfl, rfl⟩ := hh
        go_wp2_with (first | (go_at_call 94; go_loud ((with_reducible refine (plus_calls _ _ _).mono ?_); rintro e w' ⟨rfl, rfl⟩)) | (go_at_call 95; go_loud ((with_reducible refine (hsort _).mono ?_); rintro e w' ⟨rfl, rfl⟩)))
        go_meet
        case rel => exact ⟨rfl, rfl, rfl⟩
    case rest =>
      obtain ⟨rfl, rfl, rfl⟩ := hcut
      clear HH hsort hk4 em ex
      go_wp2_with (first | (go_at_call 94; go_loud ((with_reducible refine (plus_calls _ _ _).mono ?_); rintro e w' ⟨rfl, rfl⟩)) | (go_at_call 96; go_loud ((with_reducible refine (hturn _).mono ?_); rintro e w' ⟨rfl, rfl⟩)))
      refine wp_region_any (by kernel_rfl) ?_
      try (change wpAny _ _ _ _ _ _ _ (World.drew _))
      refine wpAny_take (i := 0) (v := .pointer (some ⟨w.heap.size, 8, none⟩)) rfl (by kernel_rfl) (by kernel_rfl) (by kernel_rfl) (fun _ _ _ h => h) (Or.inl ⟨by rfl, fun w1 => by go_simp⟩) ?_
      refine wpAny_take (i := 2) (v := .complex .f64 rb ib) rfl (by kernel_rfl) (by kernel_rfl) (by kernel_rfl) (fun _ _ _ h => h) (Or.inl ⟨by rfl, fun w1 => by go_simp⟩) ?_
      refine wpAny_take (i := 3) (v := .float .f64 rb) rfl (by kernel_rfl) (by kernel_rfl) (by kernel_rfl) (fun _ _ _ h => h) (Or.inl ⟨by rfl, fun w1 => by go_simp⟩) ?_
      refine wpAny_take (i := 4) (v := .int .i64 (reQ q)) rfl (by kernel_rfl) (by kernel_rfl) (by kernel_rfl) (fun _ _ _ h => h) (Or.inl ⟨by rfl, fun w1 => by go_simp⟩) ?_
      refine wpAny_take (i := 6) (v := .pointer (some ⟨w.heap.size, 9, none⟩)) rfl (by kernel_rfl) (by kernel_rfl) (by kernel_rfl) (fun _ _ _ h => h) (Or.inl ⟨by rfl, fun w1 => by go_simp⟩) ?_
      refine wpAny_take (i := 8) (v := .complex .f64 rb ib) rfl (by kernel_rfl) (by kernel_rfl) (by kernel_rfl) (fun _ _ _ h => h) (Or.inl ⟨by rfl, fun w1 => by go_simp⟩) ?_
      refine wpAny_take (i := 9) (v := .float .f64 ib) rfl (by kernel_rfl) (by kernel_rfl) (by kernel_rfl) (fun _ _ _ h => h) (Or.inl ⟨by rfl, fun w1 => by go_simp⟩) ?_
      refine wpAny_take (i := 10) (v := .int .i64 (imQ q)) rfl (by kernel_rfl) (by kernel_rfl) (by kernel_rfl) (fun _ _ _ h => h) (Or.inl ⟨by rfl, fun w1 => by go_simp⟩) ?_
      refine wpAny_ready (rs := [1, 7]) (by kernel_rfl) (by simp) ?_
      refine (AllReady.cons rfl (fun K hK => ?_) (AllReady.cons rfl (fun K hK => ?_) AllReady.nil))
      · go_simp
        refine hK _ _ ?_
        clear hK K
        refine wpAny_ready (rs := [5, 7]) (by kernel_rfl) (by simp) ?_
        refine (AllReady.cons rfl (fun K hK => ?_) (AllReady.cons rfl (fun K hK => ?_) AllReady.nil))
        · go_simp
          go_wp2_with (first | (go_at_call 94; go_loud ((with_reducible refine (plus_calls _ _ _).mono ?_); rintro e w' ⟨rfl, rfl⟩)))
          refine wpAny_ready (rs := [7]) (by kernel_rfl) (by simp) ?_
          refine (AllReady.cons rfl (fun K hK => ?_) AllReady.nil)
          · go_simp
            refine hK _ _ ?_
            clear hK K
            refine wpAny_take (i := 12) (v := .pointer (some ⟨w.heap.size, 8, none⟩)) rfl (by kernel_rfl) (by kernel_rfl) (by kernel_rfl) (fun _ _ _ h => h) (Or.inl ⟨by rfl, fun w1 => by go_simp⟩) ?_
            refine wpAny_ready (rs := [11]) (by kernel_rfl) (by simp) ?_
            refine (AllReady.cons rfl (fun K hK => ?_) AllReady.nil)
            · go_simp
              go_wp2_with (first | (go_at_call 94; go_loud ((with_reducible refine (plus_calls _ _ _).mono ?_); rintro e w' ⟨rfl, rfl⟩)))
              refine wpAny_ready (rs := [13]) (by kernel_rfl) (by simp) ?_
              refine (AllReady.cons rfl (fun K hK => ?_) AllReady.nil)
              · go_simp
                refine hK _ _ ?_
                clear hK K
                refine wpAny_ready (rs := [14]) (by kernel_rfl) (by simp) ?_
                refine (AllReady.cons rfl (fun K hK => ?_) AllReady.nil)
                · go_simp
                  refine hK _ _ ?_
                  clear hK K
                  refine wpAny_ready (rs := [15]) (by kernel_rfl) (by simp) ?_
                  refine (AllReady.cons rfl (fun K hK => ?_) AllReady.nil)
                  · go_simp
                    refine hK _ _ ?_
                    clear hK K
                    refine wpAny_done (by kernel_rfl) ?_ _
                    go_wp2
                    have ho := HA.out
                    subst ho
                    refine bodyPost_ret (results_cell_row rfl _ _ (w.heap.size + 1) 44 #[.int .i64 (plusP c 1), .int .i64 (plusP s v), .int .i64 m2, .int .i64 x2, .int .i64 H0, .int .i64 H1, .int .i64 H2, .int .i64 H3, .int .i64 (plusP re (reQ q)), .int .i64 (plusP im (imQ q))] (0, 0) _ rfl (blk_drew ?_) Try.underlying44 rfl (by kernel_rfl)) rfl ?_
                    · exact heap_alloc2_new w _ _
                    · exact ⟨rfl, below_drew (below_alloc (below_alloc (Below.refl _ _) _) _)⟩
        · go_simp
          refine hK _ _ ?_
          clear hK K
          refine wpAny_ready (rs := [5]) (by kernel_rfl) (by simp) ?_
          refine (AllReady.cons rfl (fun K hK => ?_) AllReady.nil)
          · go_simp
            go_wp2_with (first | (go_at_call 94; go_loud ((with_reducible refine (plus_calls _ _ _).mono ?_); rintro e w' ⟨rfl, rfl⟩)))
            refine wpAny_take (i := 12) (v := .pointer (some ⟨w.heap.size, 8, none⟩)) rfl (by kernel_rfl) (by kernel_rfl) (by kernel_rfl) (fun _ _ _ h => h) (Or.inl ⟨by rfl, fun w1 => by go_simp⟩) ?_
            refine wpAny_ready (rs := [11]) (by kernel_rfl) (by simp) ?_
            refine (AllReady.cons rfl (fun K hK => ?_) AllReady.nil)
            · go_simp
              go_wp2_with (first | (go_at_call 94; go_loud ((with_reducible refine (plus_calls _ _ _).mono ?_); rintro e w' ⟨rfl, rfl⟩)))
              refine wpAny_ready (rs := [13]) (by kernel_rfl) (by simp) ?_
              refine (AllReady.cons rfl (fun K hK => ?_) AllReady.nil)
              · go_simp
                refine hK _ _ ?_
                clear hK K
                refine wpAny_ready (rs := [14]) (by kernel_rfl) (by simp) ?_
                refine (AllReady.cons rfl (fun K hK => ?_) AllReady.nil)
                · go_simp
                  refine hK _ _ ?_
                  clear hK K
                  refine wpAny_ready (rs := [15]) (by kernel_rfl) (by simp) ?_
                  refine (AllReady.cons rfl (fun K hK => ?_) AllReady.nil)
                  · go_simp
                    refine hK _ _ ?_
                    clear hK K
                    refine wpAny_done (by kernel_rfl) ?_ _
                    go_wp2
                    have ho := HA.out
                    subst ho
                    refine bodyPost_ret (results_cell_row rfl _ _ (w.heap.size + 1) 44 #[.int .i64 (plusP c 1), .int .i64 (plusP s v), .int .i64 m2, .int .i64 x2, .int .i64 H0, .int .i64 H1, .int .i64 H2, .int .i64 H3, .int .i64 (plusP re (reQ q)), .int .i64 (plusP im (imQ q))] (0, 0) _ rfl (blk_drew ?_) Try.underlying44 rfl (by kernel_rfl)) rfl ?_
                    · exact heap_alloc2_new w _ _
                    · exact ⟨rfl, below_drew (below_alloc (below_alloc (Below.refl _ _) _) _)⟩
      · go_simp
        refine hK _ _ ?_
        clear hK K
        refine wpAny_ready (rs := [1]) (by kernel_rfl) (by simp) ?_
        refine (AllReady.cons rfl (fun K hK => ?_) AllReady.nil)
        · go_simp
          refine hK _ _ ?_
          clear hK K
          refine wpAny_ready (rs := [5]) (by kernel_rfl) (by simp) ?_
          refine (AllReady.cons rfl (fun K hK => ?_) AllReady.nil)
          · go_simp
            go_wp2_with (first | (go_at_call 94; go_loud ((with_reducible refine (plus_calls _ _ _).mono ?_); rintro e w' ⟨rfl, rfl⟩)))
            refine wpAny_take (i := 12) (v := .pointer (some ⟨w.heap.size, 8, none⟩)) rfl (by kernel_rfl) (by kernel_rfl) (by kernel_rfl) (fun _ _ _ h => h) (Or.inl ⟨by rfl, fun w1 => by go_simp⟩) ?_
            refine wpAny_ready (rs := [11]) (by kernel_rfl) (by simp) ?_
            refine (AllReady.cons rfl (fun K hK => ?_) AllReady.nil)
            · go_simp
              go_wp2_with (first | (go_at_call 94; go_loud ((with_reducible refine (plus_calls _ _ _).mono ?_); rintro e w' ⟨rfl, rfl⟩)))
              refine wpAny_ready (rs := [13]) (by kernel_rfl) (by simp) ?_
              refine (AllReady.cons rfl (fun K hK => ?_) AllReady.nil)
              · go_simp
                refine hK _ _ ?_
                clear hK K
                refine wpAny_ready (rs := [14]) (by kernel_rfl) (by simp) ?_
                refine (AllReady.cons rfl (fun K hK => ?_) AllReady.nil)
                · go_simp
                  refine hK _ _ ?_
                  clear hK K
                  refine wpAny_ready (rs := [15]) (by kernel_rfl) (by simp) ?_
                  refine (AllReady.cons rfl (fun K hK => ?_) AllReady.nil)
                  · go_simp
                    refine hK _ _ ?_
                    clear hK K
                    refine wpAny_done (by kernel_rfl) ?_ _
                    go_wp2
                    have ho := HA.out
                    subst ho
                    refine bodyPost_ret (results_cell_row rfl _ _ (w.heap.size + 1) 44 #[.int .i64 (plusP c 1), .int .i64 (plusP s v), .int .i64 m2, .int .i64 x2, .int .i64 H0, .int .i64 H1, .int .i64 H2, .int .i64 H3, .int .i64 (plusP re (reQ q)), .int .i64 (plusP im (imQ q))] (0, 0) _ rfl (blk_drew ?_) Try.underlying44 rfl (by kernel_rfl)) rfl ?_
                    · exact heap_alloc2_new w _ _
                    · exact ⟨rfl, below_drew (below_alloc (below_alloc (Below.refl _ _) _) _)⟩
end
end Go.Proofs.Ytgipepjpkmlmaaa.P
