import Derived.Test.YtgipepjpkmlmaaaQR1
import Derived.Test.YtgipepjpkmlmaaaQR2
import Derived.Test.YtgipepjpkmlmaaaQR3
import Derived.Test.YtgipepjpkmlmaaaQR4
import Derived.Test.YtgipepjpkmlmaaaQR5
import Derived.Test.YtgipepjpkmlmaaaQR6
import Derived.Test.YtgipepjpkmlmaaaQR7
import Derived.Test.YtgipepjpkmlmaaaQR8
import Derived.Test.YtgipepjpkmlmaaaQR9
import Derived.Test.YtgipepjpkmlmaaaQR10
import Derived.Test.YtgipepjpkmlmaaaQR12
import Derived.Test.YtgipepjpkmlmaaaQR14
import Derived.Test.YtgipepjpkmlmaaaQR16
namespace Go.Proofs.Ytgipepjpkmlmaaa.P
open Go.RowKit Go.Proofs.YtgipepjpkmlmaaaW.PrintWords Go.Proofs.YtgipepjpkmlmaaaW.PrintLast Go.Proofs.YtgipepjpkmlmaaaW.PrintMore
set_option linter.unusedVariables false
set_option linter.unusedSimpArgs false
/-- Where a window's place is, in a row in order. -/
def placeOk (l : List S46) (t : S46) (i : Nat) : Prop := i ≤ l.length ∧ (∀ m, m < i → aheadB (rd_T46 l (m : Int)) t = true) ∧ (i < l.length → aheadB (rd_T46 l (i : Int)) t = false)
theorem place_at (l : List S46) (t : S46) : ∃ i, placeOk l t i := by
  induction l with
  | nil => exact ⟨0, Nat.le_refl _, fun m h => by omega, fun h => by simp at h⟩
  | cons x l ih =>
    cases hx : aheadB x t with
    | false => exact ⟨0, Nat.zero_le _, fun m h => by omega, fun _ => hx⟩
    | true =>
      obtain ⟨i, h1, h2, h3⟩ := ih
      refine ⟨i + 1, by rw [List.length_cons]; omega, fun m hm => ?_, fun h => ?_⟩
      · cases m with
        | zero => exact hx
        | succ m =>
          have := h2 m (by omega)
          exact this
      · have := h3 (by rw [List.length_cons] at h; omega)
        exact this
def isP (l : List S46) (t : S46) (i : Nat) : Bool := decide (i < l.length) && !aheadB t (rd_T46 l (i : Int))
def stV (s : S28) (A : Option Addr) (c : Nat) : Value := .agg #[.int .i64 s.f0, .int .i64 s.f1, .int .i64 s.f2, .int .i64 s.f3, .slice A s.f4.length c]
/-- What Apply leaves behind its search for the place. -/
structure ApW (w wc : World) (s : S28) (r : S50) (A : Option Addr) (n c : Nat) : Prop where
  b0 : wc.heap[w.heap.size]? = some (.cells #[.int .i64 s.f0, .int .i64 s.f1, .int .i64 s.f2, .int .i64 s.f3, .slice A n c] 28 (0, 0))
  b1 : wc.heap[w.heap.size + 1]? = some (.cells #[.int .i64 r.f0, .int .i64 r.f1, .string r.f2] 50 (0, 0))
  b2 : wc.heap[w.heap.size + 2]? = some (.cells #[.int .i64 0, .int .i64 0, .int .i64 0, .int .i64 0, .slice none 0 0] 28 (0, 0))
  bw : Below w.heap.size w wc
end Go.Proofs.Ytgipepjpkmlmaaa.P
namespace Go.Proofs.Ytgipepjpkmlmaaa.P
open Go.RowKit Go.Proofs.YtgipepjpkmlmaaaW.PrintWords Go.Proofs.YtgipepjpkmlmaaaW.PrintLast Go.Proofs.YtgipepjpkmlmaaaW.PrintMore
set_option linter.unusedVariables false
set_option linter.unusedSimpArgs false
/-- A record that is applied. -/
def Step (s : S28) (r : S50) (s' : S28) : Prop := ∀ (A : Option Addr) (c : Nat) (w : World), Kd.C k46 w A s.f4.length s.f4 → s.f4.length ≤ c →
  Calls Try.prog 36 #[stV s A c, recV r] w fun e w' => ∃ (A' : Option Addr) (c' : Nat), e = .returned (.tuple #[stV s' A' c', .int .i64 0]) ∧ Kd.R k46 46 w' w.heap.size (fun _ => True) (.slice A' s'.f4.length c') s'.f4 ∧ Below w.heap.size w w'
/-- Records that are applied, one behind the other. -/
def Steps : S28 → List S50 → S28 → Prop
  | s, [], s' => s = s'
  | s, r :: l, s' => ∃ t, Step s r t ∧ Steps t l s'
def s0 : S28 := ⟨-1, 0, 0, 0, []⟩
theorem R_reok {w : World} {B b : Nat} {ok ok2 : Nat → Prop} {v : Value} {l : List S46} (h : Kd.R k46 46 w B ok v l) (hb : b ≤ B) (h2 : ∀ k, v.ownBlock = some k → ok2 k) : Kd.R k46 46 w b ok2 v l := by
  have ho := own_of_R h
  refine R_of_own ⟨ho.1, ?_⟩ h2
  rcases ho.2 with e | ⟨g, cap, cur, e, h1, h3⟩
  · exact .inl e
  · exact .inr ⟨g, cap, cur, e, by omega, h3⟩
theorem own_lt {w : World} {B : Nat} {ok : Nat → Prop} {v : Value} {l : List S46} (h : Kd.R k46 46 w B ok v l) {k : Nat} (hk : v.ownBlock = some k) : B ≤ k ∧ k < w.heap.size := by
  obtain ⟨cl, hcl⟩ := own_typed (Kd.R_own h).choose_spec k hk
  exact ⟨Kd.R_base h k hk, lt_of_block hcl⟩
set_option maxHeartbeats 16000000 in
set_option maxRecDepth 100000 in
theorem restore_calls (g : S23) (l : List S50) (s' : S28) (hst : Steps s0 l s') (hchk : checkP g s' = true) (hl4 : s'.f4.length ≤ 1000) (A : Option Addr) (c : Nat) (w : World) (hr : Kd.C k50 w A l.length l) (hc : l.length ≤ c) (hl : l.length ≤ 1000000) :
    Calls Try.prog 37 #[gridV g, .slice A l.length c] w fun e w' => ∃ (A' : Option Addr) (c' : Nat), e = .returned (.tuple #[stV s' A' c', .int .i64 0]) ∧ Kd.R k46 46 w' w.heap.size (fun _ => True) (.slice A' s'.f4.length c') s'.f4 ∧ Below w.heap.size w w' := by
  have hck : ∀ (A : Option Addr) (c : Nat) (w : World), Kd.C k46 w A s'.f4.length s'.f4 → s'.f4.length ≤ c → Calls Try.prog 21 #[gridV g, stV s' A c] w fun e w' => e = .returned (.int .i64 0) ∧ Below w.heap.size w w' := by
    intro A c w h1 h2
    have h := check21_calls g s' A c w h1 h2 (by omega)
    rw [hchk] at h
    exact h
  have HCK := Lib.hid hck
  have HST := Lib.hid hst
  have HR := Lib.hid hr
  obtain ⟨n, hn⟩ : ∃ n, l.length = n := ⟨_, rfl⟩
  rw [hn] at hr hc hl HR ⊢
  have HN := Lib.hid hn
  clear hck hst hchk hr hn
  obtain ⟨W2, hW2⟩ : ∃ W, W = (w.alloc (.cells #[.int .i64 g.f0, .int .i64 g.f1, .int .i64 g.f2] 23)).alloc (.cells #[.int .i64 0, .int .i64 0, .int .i64 0, .int .i64 0, .slice none 0 0] 28) := ⟨_, rfl⟩
  have h0 : W2.heap[w.heap.size]? = some (.cells #[.int .i64 g.f0, .int .i64 g.f1, .int .i64 g.f2] 23 (0, 0)) := by
    rw [hW2, Below.heap_alloc _ _ _ (by simp)]
    exact heap_alloc_new _ _
  have h1 : W2.heap[w.heap.size + 1]? = some (.cells #[.int .i64 0, .int .i64 0, .int .i64 0, .int .i64 0, .slice none 0 0] 28 (0, 0)) := by
    rw [hW2]
    have := heap_alloc_new (w.alloc (.cells #[.int .i64 g.f0, .int .i64 g.f1, .int .i64 g.f2] 23)) (.cells #[.int .i64 0, .int .i64 0, .int .i64 0, .int .i64 0, .slice none 0 0] 28)
    simpa using this
  have hbw : Below w.heap.size w W2 := by rw [hW2]; exact below_alloc (below_alloc (Below.refl _ _) _) _
  have HB := Lib.hid hbw
  have HW2 := Lib.hid hW2
  have H0 := Lib.hid h0
  have H1 := Lib.hid h1
  have h16 := fun w => engine_Zero.calls (-1) 0 0 0 [] w rfl
  have H16 := Lib.hid h16
  clear hW2 h0 h1 hbw h16
  go_enter Try.func37, Try.ntmps37
  go_upto_region 1 with fail
  rw [← HW2.out]
  go_upto_region 2 with (first | (go_at_call 16; go_loud ((with_reducible refine (H16.out _).mono ?_); rintro e w3 ⟨v4, rfl, hR4, hb3⟩; obtain ⟨A4, c4, rfl, hc4, _⟩ := Kd.R_reads hR4; have HR4 := Lib.hid hR4; have HB3 := Lib.hid hb3; clear hR4 hb3)))
  obtain ⟨WL, hWL⟩ : ∃ W, W = w3.alloc (.cells #[.int .i64 (-1), .int .i64 0, .int .i64 0, .int .i64 0, .slice A4 0 c4] 28) := ⟨_, rfl⟩
  have hb3 : Below W2.heap.size W2 WL := by rw [hWL]; exact HB3.out.alloc HB3.out.size _
  have hgs : WL.heap[w3.heap.size]? = some (.cells #[.int .i64 (-1), .int .i64 0, .int .i64 0, .int .i64 0, .slice A4 0 c4] 28 (0, 0)) := by rw [hWL]; exact heap_alloc_new _ _
  have hrl : Kd.R k46 46 WL w.heap.size (fun k => k ≠ w3.heap.size ∧ w.heap.size + 1 < k) (.slice A4 0 c4) [] := by
    refine R_reok (Kd.R_below HR4.out (by rw [hWL]; exact (Below.refl _ _).alloc (Nat.le_refl _) _)) HB.out.size (fun k hk => ?_)
    have h := own_lt HR4.out hk
    have h1 := lt_of_block H1.out
    omega
  have hgl : w.heap.size + 1 < w3.heap.size := by have h1 := lt_of_block H1.out; have h2 := HB3.out.size; omega
  rw [← hWL]
  clear hWL
  obtain ⟨gs, hgse⟩ : ∃ gs, w3.heap.size = gs := ⟨_, rfl⟩
  rw [hgse] at hgs hrl hgl ⊢
  have HGL := Lib.hid hgl
  have HBL := Lib.hid hb3
  have HGS := Lib.hid hgs
  have HRL := Lib.hid hrl
  clear hb3 hgs hrl hgl hgse HR4
  go_wp2
  go_loopg [14] n (fun kq v14 WX => ∃ (i : Nat) (q : S28) (A6 : Option Addr) (c6 n6 : Nat), v14 = .int .i64 (i : Int) ∧ i ≤ n ∧ n - i ≤ kq ∧ n6 = q.f4.length ∧ n6 ≤ c6 ∧ Steps q (l.drop i) s' ∧ WX.heap[gs]? = some (.cells #[.int .i64 q.f0, .int .i64 q.f1, .int .i64 q.f2, .int .i64 q.f3, .slice A6 n6 c6] 28 (0, 0)) ∧ Kd.R k46 46 WX w.heap.size (fun k => k ≠ gs ∧ w.heap.size + 1 < k) (.slice A6 n6 c6) q.f4 ∧ WX.heap[w.heap.size]? = some (.cells #[.int .i64 g.f0, .int .i64 g.f1, .int .i64 g.f2] 23 (0, 0)) ∧ WX.heap[w.heap.size + 1]? = some (.cells #[.int .i64 0, .int .i64 0, .int .i64 0, .int .i64 0, .slice none 0 0] 28 (0, 0)) ∧ Below w.heap.size w WX)
  case atStart => exact ⟨0, s0, A4, c4, 0, rfl, Nat.zero_le _, by omega, rfl, Nat.zero_le _, HST.out, HGS.out, HRL.out, blk_below H0.out HBL.out, blk_below H1.out HBL.out, HB.out.trans (HBL.out.mono HB.out.size)⟩
  case round =>
    obtain ⟨i, q, A6, c6, n6, rfl, hin, hik, e6, hc6, hst, hgs, hrq, hg0, hz1, hbr⟩ := hrel
    have HGQ := Lib.hid hgs
    have HRQ := Lib.hid hrq
    have HG0 := Lib.hid hg0
    have HZ1 := Lib.hid hz1
    have HBR := Lib.hid hbr
    have HE6 := Lib.hid e6
    have hcq : Kd.C k46 wr A6 q.f4.length q.f4 := (Kd.R_reads' hrq).2.2
    by_cases hlt : i < n
    rotate_left
    · have d1 : decide ((i : Int) < (n : Int)) = false := decide_eq_false (by omega)
      have z0 : wr.cell? ⟨gs, 0, none⟩ = some (.int .i64 q.f0) := (blk_cell hgs 0).trans rfl
      have z1 : wr.cell? ⟨gs, 1, none⟩ = some (.int .i64 q.f1) := (blk_cell hgs 1).trans rfl
      have z2 : wr.cell? ⟨gs, 2, none⟩ = some (.int .i64 q.f2) := (blk_cell hgs 2).trans rfl
      have z3 : wr.cell? ⟨gs, 3, none⟩ = some (.int .i64 q.f3) := (blk_cell hgs 3).trans rfl
      have z4 : wr.cell? ⟨gs, 4, none⟩ = some (.slice A6 n6 c6) := (blk_cell hgs 4).trans rfl
      rw [List.drop_eq_nil_of_le (by rw [HN.out]; omega)] at hst
      obtain rfl : q = s' := hst
      have hckq := fun (w : World) (h : Kd.C k46 w A6 q.f4.length q.f4) => HCK.out A6 c6 w h (by rw [← e6]; exact hc6)
      unfold stV at hckq
      rw [← e6] at hckq
      have HCKQ := Lib.hid hckq
      have HCQ := Lib.hid (show Kd.C k46 wr A6 n6 q.f4 from by rw [e6]; exact hcq)
      have y0 : wr.cell? ⟨w.heap.size, 0, none⟩ = some (.int .i64 g.f0) := (blk_cell hg0 0).trans rfl
      have y1 : wr.cell? ⟨w.heap.size, 1, none⟩ = some (.int .i64 g.f1) := (blk_cell hg0 1).trans rfl
      have y2 : wr.cell? ⟨w.heap.size, 2, none⟩ = some (.int .i64 g.f2) := (blk_cell hg0 2).trans rfl
      clear hckq hcq hgs hrq hg0 hz1 hbr e6
      go_wp2_with (first | (go_at_call 21; go_loud ((with_reducible refine (HCKQ.out _ HCQ.out).mono ?_); rintro e w5 ⟨rfl, hb5⟩; have hq5 := blk_below HGQ.out hb5; have hz5 := blk_below HZ1.out hb5; have x0 : w5.cell? ⟨gs, 0, none⟩ = some (.int .i64 q.f0) := (blk_cell hq5 0).trans rfl; have x1 : w5.cell? ⟨gs, 1, none⟩ = some (.int .i64 q.f1) := (blk_cell hq5 1).trans rfl; have x2 : w5.cell? ⟨gs, 2, none⟩ = some (.int .i64 q.f2) := (blk_cell hq5 2).trans rfl; have x3 : w5.cell? ⟨gs, 3, none⟩ = some (.int .i64 q.f3) := (blk_cell hq5 3).trans rfl; have x4 : w5.cell? ⟨gs, 4, none⟩ = some (.slice A6 n6 c6) := (blk_cell hq5 4).trans rfl; have u0 : w5.cell? ⟨w.heap.size + 1, 0, none⟩ = some (.int .i64 0) := (blk_cell hz5 0).trans rfl; have u1 : w5.cell? ⟨w.heap.size + 1, 1, none⟩ = some (.int .i64 0) := (blk_cell hz5 1).trans rfl; have u2 : w5.cell? ⟨w.heap.size + 1, 2, none⟩ = some (.int .i64 0) := (blk_cell hz5 2).trans rfl; have u3 : w5.cell? ⟨w.heap.size + 1, 3, none⟩ = some (.int .i64 0) := (blk_cell hz5 3).trans rfl; have u4 : w5.cell? ⟨w.heap.size + 1, 4, none⟩ = some (.slice none 0 0) := (blk_cell hz5 4).trans rfl; have f0 := blk_frozen hz5 0; have f1 := blk_frozen hz5 1; have f2 := blk_frozen hz5 2; have f3 := blk_frozen hz5 3; have f4 := blk_frozen hz5 4; have HZ5 := Lib.hid hz5; have HB5 := Lib.hid (HBR.out.trans (hb5.mono HBR.out.size)); have HR5 := Lib.hid (Kd.R_below HRQ.out hb5); clear hq5 hz5 hb5)))
      refine bodyPost_ret (results_ct' rfl _ _ (w.heap.size + 1) 28 #[.int .i64 q.f0, .int .i64 q.f1, .int .i64 q.f2, .int .i64 q.f3, .slice A6 n6 c6] (0, 0) _ rfl (put5_heap HZ5.out (.int .i64 q.f0) (.int .i64 q.f1) (.int .i64 q.f2) (.int .i64 q.f3) (.slice A6 n6 c6)) Try.underlying28 rfl (by kernel_rfl)) rfl ?_
      refine ⟨A6, c6, by unfold stV; rw [← HE6.out]; rfl, ?_, put5_below HB5.out (Nat.le_succ _) (.int .i64 q.f0) (.int .i64 q.f1) (.int .i64 q.f2) (.int .i64 q.f3) (.slice A6 n6 c6)⟩
      rw [← HE6.out]
      exact R_ok (R_other HR5.out (fun k hk => put5_other (by have h1 : k ≠ gs ∧ w.heap.size + 1 < k := hk; omega) (.int .i64 q.f0) (.int .i64 q.f1) (.int .i64 q.f2) (.int .i64 q.f3) (.slice A6 n6 c6))) (fun _ _ => trivial)
    · have d1 : decide ((i : Int) < (n : Int)) = true := decide_eq_true (by omega)
      have hbi : (0 : Int) ≤ (i : Int) ∧ (i : Int) < (n : Int) := by omega
      have hwi : IntKind.i64.wrap ((i : Int) + 1) = ((i + 1 : Nat) : Int) := by rw [IntKind.wrap_i64]; omega
      obtain ⟨ad, had, x0, x1, x2⟩ := at_T50 (Kd.C_below HR.out hbr) (i : Int) (by omega) (by omega)
      cases had
      rw [Int.toNat_natCast] at x0 x1 x2
      have hlt2 : i < l.length := by have := HN.out; omega
      have hrd : rd_T50 l (i : Int) = l[i] := by simp [rd_T50, List.getD, List.getElem?_eq_getElem hlt2]
      rw [List.drop_eq_getElem_cons hlt2, ← hrd] at hst
      obtain ⟨x, hx⟩ : ∃ x, rd_T50 l (i : Int) = x := ⟨_, rfl⟩
      rw [hx] at x0 x1 x2 hst
      obtain ⟨t, hstep, hst2⟩ := hst
      have hstp := fun (w : World) (h : Kd.C k46 w A6 q.f4.length q.f4) => hstep A6 c6 w h (by rw [← e6]; exact hc6)
      unfold stV at hstp
      rw [← e6] at hstp hcq
      have HSTP := Lib.hid hstp
      have HST2 := Lib.hid hst2
      have HCQ := Lib.hid hcq
      clear hstep hstp hst2 hcq hrd hx hlt2 e6
      cases gk with
      | zero => omega
      | succ gk =>
      obtain ⟨W4, hW4⟩ : ∃ W, W = wr.alloc (.cells #[.int .i64 x.f0, .int .i64 x.f1, .string x.f2] 50) := ⟨_, rfl⟩
      have hb4 : Below wr.heap.size wr W4 := by rw [hW4]; exact (Below.refl _ _).alloc (Nat.le_refl _) _
      have hr4 : W4.heap[wr.heap.size]? = some (.cells #[.int .i64 x.f0, .int .i64 x.f1, .string x.f2] 50 (0, 0)) := by rw [hW4]; exact heap_alloc_new _ _
      have hq4 := blk_below HGQ.out hb4
      have z0 : W4.cell? ⟨gs, 0, none⟩ = some (.int .i64 q.f0) := (blk_cell hq4 0).trans rfl
      have z1 : W4.cell? ⟨gs, 1, none⟩ = some (.int .i64 q.f1) := (blk_cell hq4 1).trans rfl
      have z2 : W4.cell? ⟨gs, 2, none⟩ = some (.int .i64 q.f2) := (blk_cell hq4 2).trans rfl
      have z3 : W4.cell? ⟨gs, 3, none⟩ = some (.int .i64 q.f3) := (blk_cell hq4 3).trans rfl
      have z4 : W4.cell? ⟨gs, 4, none⟩ = some (.slice A6 n6 c6) := (blk_cell hq4 4).trans rfl
      have y0 : W4.cell? ⟨wr.heap.size, 0, none⟩ = some (.int .i64 x.f0) := (blk_cell hr4 0).trans rfl
      have y1 : W4.cell? ⟨wr.heap.size, 1, none⟩ = some (.int .i64 x.f1) := (blk_cell hr4 1).trans rfl
      have y2 : W4.cell? ⟨wr.heap.size, 2, none⟩ = some (.string x.f2) := (blk_cell hr4 2).trans rfl
      have HB4 := Lib.hid hb4
      have HC4 := Lib.hid (Kd.C_below HCQ.out hb4)
      have HW4 := Lib.hid hW4
      clear hW4 hb4 hr4 hq4 hgs hrq hg0 hz1 hbr
      go_upto_region 5 with fail
      rw [← HW4.out]
      go_upto_region 6 with (first | (go_at_call 36; go_loud ((with_reducible refine (HSTP.out _ HC4.out).mono ?_); rintro e w5 ⟨A9, c9, rfl, hR9, hb5⟩; have HR9 := Lib.hid hR9; have HB5 := Lib.hid hb5; clear hR9 hb5)))
      obtain ⟨n9, hn9⟩ : ∃ n9, t.f4.length = n9 := ⟨_, rfl⟩
      rw [hn9] at HR9 ⊢
      have hc9 := (Kd.R_reads' HR9.out).2.1
      obtain ⟨WT, hWT⟩ : ∃ W, W = w5.alloc (.cells #[.int .i64 t.f0, .int .i64 t.f1, .int .i64 t.f2, .int .i64 t.f3, .slice A9 n9 c9] 28) := ⟨_, rfl⟩
      have htt : WT.heap[w5.heap.size]? = some (.cells #[.int .i64 t.f0, .int .i64 t.f1, .int .i64 t.f2, .int .i64 t.f3, .slice A9 n9 c9] 28 (0, 0)) := by rw [hWT]; exact heap_alloc_new _ _
      have hbT : Below w5.heap.size w5 WT := by rw [hWT]; exact (Below.refl _ _).alloc (Nat.le_refl _) _
      have hbT4 : Below W4.heap.size W4 WT := HB5.out.trans (hbT.mono HB5.out.size)
      have hbTr : Below wr.heap.size wr WT := HB4.out.trans (hbT4.mono HB4.out.size)
      have hqT := blk_below HGQ.out hbTr
      rw [← hWT]
      have t0 : WT.cell? ⟨w5.heap.size, 0, none⟩ = some (.int .i64 t.f0) := (blk_cell htt 0).trans rfl
      have s0 : WT.cell? ⟨gs, 0, none⟩ = some (.int .i64 q.f0) := (blk_cell hqT 0).trans rfl
      have f0 : WT.frozen? ⟨gs, 0, none⟩ = false := blk_frozen hqT 0
      have t1 : WT.cell? ⟨w5.heap.size, 1, none⟩ = some (.int .i64 t.f1) := (blk_cell htt 1).trans rfl
      have s1 : WT.cell? ⟨gs, 1, none⟩ = some (.int .i64 q.f1) := (blk_cell hqT 1).trans rfl
      have f1 : WT.frozen? ⟨gs, 1, none⟩ = false := blk_frozen hqT 1
      have t2 : WT.cell? ⟨w5.heap.size, 2, none⟩ = some (.int .i64 t.f2) := (blk_cell htt 2).trans rfl
      have s2 : WT.cell? ⟨gs, 2, none⟩ = some (.int .i64 q.f2) := (blk_cell hqT 2).trans rfl
      have f2 : WT.frozen? ⟨gs, 2, none⟩ = false := blk_frozen hqT 2
      have t3 : WT.cell? ⟨w5.heap.size, 3, none⟩ = some (.int .i64 t.f3) := (blk_cell htt 3).trans rfl
      have s3 : WT.cell? ⟨gs, 3, none⟩ = some (.int .i64 q.f3) := (blk_cell hqT 3).trans rfl
      have f3 : WT.frozen? ⟨gs, 3, none⟩ = false := blk_frozen hqT 3
      have t4 : WT.cell? ⟨w5.heap.size, 4, none⟩ = some (.slice A9 n9 c9) := (blk_cell htt 4).trans rfl
      have s4 : WT.cell? ⟨gs, 4, none⟩ = some (.slice A6 n6 c6) := (blk_cell hqT 4).trans rfl
      have f4 : WT.frozen? ⟨gs, 4, none⟩ = false := blk_frozen hqT 4
      have hwl : gs < wr.heap.size ∧ w.heap.size + 1 < wr.heap.size := ⟨lt_of_block HGQ.out, lt_of_block HZ1.out⟩
      have hRT : Kd.R k46 46 WT w.heap.size (fun k => k ≠ gs ∧ w.heap.size + 1 < k) (.slice A9 n9 c9) t.f4 := R_reok (Kd.R_below HR9.out hbT) (Nat.le_trans HBR.out.size HB4.out.size) (fun k hk => by have h1 := (own_lt HR9.out hk).1; have h2 := HB4.out.size; omega)
      have HRT := Lib.hid hRT
      have HQT := Lib.hid hqT
      have HBT := Lib.hid hbTr
      have HN9 := Lib.hid hn9
      have HWL := Lib.hid hwl
      clear hWT htt hbT hbT4 hbTr hqT hRT hn9 hwl z0 z1 z2 z3 z4 y0 y1 y2 x0 x1 x2
      go_wp2
      go_roundg gk
      case measure => omega
      case rel =>
        have hgl := HGL.out
        refine ⟨i + 1, t, A9, c9, n9, by first | rfl | (congr 1), by omega, by omega, HN9.out.symm, hc9, HST2.out, put5_heap HQT.out (.int .i64 t.f0) (.int .i64 t.f1) (.int .i64 t.f2) (.int .i64 t.f3) (.slice A9 n9 c9), R_other HRT.out (fun k hk => put5_other (by have h1 : k ≠ gs ∧ w.heap.size + 1 < k := hk; exact h1.1) (.int .i64 t.f0) (.int .i64 t.f1) (.int .i64 t.f2) (.int .i64 t.f3) (.slice A9 n9 c9)), (put5_other (by omega) (.int .i64 t.f0) (.int .i64 t.f1) (.int .i64 t.f2) (.int .i64 t.f3) (.slice A9 n9 c9)).trans (blk_below HG0.out HBT.out), (put5_other (by omega) (.int .i64 t.f0) (.int .i64 t.f1) (.int .i64 t.f2) (.int .i64 t.f3) (.slice A9 n9 c9)).trans (blk_below HZ1.out HBT.out), put5_below (HBR.out.trans (HBT.out.mono HBR.out.size)) (by omega) (.int .i64 t.f0) (.int .i64 t.f1) (.int .i64 t.f2) (.int .i64 t.f3) (.slice A9 n9 c9)⟩
end Go.Proofs.Ytgipepjpkmlmaaa.P
