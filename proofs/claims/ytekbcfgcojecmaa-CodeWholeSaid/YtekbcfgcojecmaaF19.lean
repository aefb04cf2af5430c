-- Written by this session's program drv.py, by means of the kit's printer; not a text of print.sh.
import Derived.Test.YtekbcfgcojecmaaF0
import Derived.Test.YtekbcfgcojecmaaF16
import Derived.Test.YtekbcfgcojecmaaF33
namespace Go.Proofs.Ytekbcfgcojecmaa.P
open Go.RowKit Go.Proofs.YtekbcfgcojecmaaW.PrintWords Go.Proofs.YtekbcfgcojecmaaW.PrintLast Go.Proofs.YtekbcfgcojecmaaW.PrintMore
attribute [local go_sem] max2_int min2_int max_two min_two max_three min_three max_four min_four   -- for this text's walks alone
set_option linter.unusedVariables false
set_option linter.unusedSimpArgs false

mutual
def headgateref21_Size.j0 : Nat → Bool → Int → Int → List (S35) → Option (Int)
  | 0, _, _, _, _ => none
  | k + 1, x37, x216000, x216001, x216002 => if x37 = true then (some 0) else (headgateref21_Size.l0 k 1 0 x216000 x216001 x216002)
def headgateref21_Size.l0 : Nat → Int → Int → Int → Int → List (S35) → Option (Int)
  | 0, _, _, _, _, _ => none
  | k + 1, x3, x4, x216000, x216001, x216002 => if x4 < (x216002.length : Int) then (if 0 ≤ x4 then ((headgateref21_Size.f k ((rd_T35 x216002 x4).f0) ((rd_T35 x216002 x4).f1) ((rd_T35 x216002 x4).f2)).bind fun t218 => (if t218 = 0 then (some 0) else (if (wrap64 (x3 + t218)) > 256 then (some 0) else (headgateref21_Size.l0 k (wrap64 (x3 + t218)) (wrap64 (x4 + 1)) x216000 x216001 x216002)))) else (none)) else (some x3)
def headgateref21_Size.f : Nat → Int → Int → List (S35) → Option (Int)
  | 0, _, _, _ => none
  | k + 1, a0_0, a0_1, l0_2 => if a0_0 < 1 then (headgateref21_Size.j0 k true a0_0 a0_1 l0_2) else (if a0_0 > 22 then (headgateref21_Size.j0 k true a0_0 a0_1 l0_2) else ((headgateref21_beneath.f a0_0).bind fun t216 => (if (l0_2.length : Int) = t216 then (if a0_1 < 0 then (headgateref21_Size.j0 k true a0_0 a0_1 l0_2) else (if a0_1 > 0 then (headgateref21_Size.j0 k (a0_0 != 1) a0_0 a0_1 l0_2) else (headgateref21_Size.j0 k false a0_0 a0_1 l0_2))) else (headgateref21_Size.j0 k true a0_0 a0_1 l0_2))))
end
theorem headgateref21_Size.mono_l : ∀ k, (∀ y0 y1 y2, LeO (headgateref21_Size.f k y0 y1 y2) (headgateref21_Size.f (k + 1) y0 y1 y2)) ∧ (∀ y0 y1 y2 y3, LeO (headgateref21_Size.j0 k y0 y1 y2 y3) (headgateref21_Size.j0 (k + 1) y0 y1 y2 y3)) ∧ (∀ y0 y1 y2 y3 y4, LeO (headgateref21_Size.l0 k y0 y1 y2 y3 y4) (headgateref21_Size.l0 (k + 1) y0 y1 y2 y3 y4))
  | 0 => ⟨fun _ _ _ r h => by simp [headgateref21_Size.f] at h, fun _ _ _ _ r h => by simp [headgateref21_Size.j0] at h, fun _ _ _ _ _ r h => by simp [headgateref21_Size.l0] at h⟩
  | k + 1 => by
    obtain ⟨ih0, ih1, ih2⟩ := headgateref21_Size.mono_l k
    refine ⟨?_, ?_, ?_⟩
    · intro y0 y1 y2
      unfold headgateref21_Size.f
      repeat' first
      | (with_reducible exact ih0 _ _ _)
      | (with_reducible exact ih1 _ _ _ _)
      | (with_reducible exact ih2 _ _ _ _ _)
      | (with_reducible exact LeO.refl _)
      | (with_reducible exact LeO.none _)
      | (with_reducible refine LeO.ite ?_ ?_)
      | (with_reducible refine LeO.bind ?_ (fun _ => ?_))
      | exact ih0 _ _ _
      | exact ih1 _ _ _ _
      | exact ih2 _ _ _ _ _
      | exact LeO.none _
      | refine LeO.ite ?_ ?_
      | refine LeO.bind ?_ (fun _ => ?_)
    · intro y0 y1 y2 y3
      unfold headgateref21_Size.j0
      repeat' first
      | (with_reducible exact ih0 _ _ _)
      | (with_reducible exact ih1 _ _ _ _)
      | (with_reducible exact ih2 _ _ _ _ _)
      | (with_reducible exact LeO.refl _)
      | (with_reducible exact LeO.none _)
      | (with_reducible refine LeO.ite ?_ ?_)
      | (with_reducible refine LeO.bind ?_ (fun _ => ?_))
      | exact ih0 _ _ _
      | exact ih1 _ _ _ _
      | exact ih2 _ _ _ _ _
      | exact LeO.none _
      | refine LeO.ite ?_ ?_
      | refine LeO.bind ?_ (fun _ => ?_)
    · intro y0 y1 y2 y3 y4
      unfold headgateref21_Size.l0
      repeat' first
      | (with_reducible exact ih0 _ _ _)
      | (with_reducible exact ih1 _ _ _ _)
      | (with_reducible exact ih2 _ _ _ _ _)
      | (with_reducible exact LeO.refl _)
      | (with_reducible exact LeO.none _)
      | (with_reducible refine LeO.ite ?_ ?_)
      | (with_reducible refine LeO.bind ?_ (fun _ => ?_))
      | exact ih0 _ _ _
      | exact ih1 _ _ _ _
      | exact ih2 _ _ _ _ _
      | exact LeO.none _
      | refine LeO.ite ?_ ?_
      | refine LeO.bind ?_ (fun _ => ?_)
theorem headgateref21_Size.mono : ∀ a0 a1 a2 k, LeO (headgateref21_Size.f k a0 a1 a2) (headgateref21_Size.f (k + 1) a0 a1 a2) := by
  intro a0 a1 a2 k
  obtain ⟨ih0, ih1, ih2⟩ := headgateref21_Size.mono_l k
  exact ih0 a0 a1 a2
def arity2 (op : Int) : Int := if op ≤ 4 then 0 else if op ≤ 6 then 1 else if op = 22 then 3 else 2
theorem rbeneath2 (op : Int) : headgateref21_beneath.f op = some (arity2 op) := by
  unfold headgateref21_beneath.f arity2
  split
  · rfl
  · split
    · rfl
    · split <;> rfl
theorem beneath_same (op t : Int) (w : World) (h : headgateref21_beneath.f op = some t) : Calls Try.prog 33 #[.int .i64 op] w fun e w' => e = .returned (.int .i64 t) ∧ w' = w := by
  unfold headgateref21_beneath.f at h
  by_cases c1 : op ≤ 4
  · have e1 : decide (op ≤ 4) = true := decide_eq_true c1
    rw [if_pos c1] at h
    obtain rfl := Option.some.inj h
    go_enter Try.func33, Try.ntmps33
    go_wp2
    go_ret
    exact ⟨rfl, rfl⟩
  rw [if_neg c1] at h
  have e1 : decide (op ≤ 4) = false := decide_eq_false c1
  by_cases c2 : op ≤ 6
  · have e2 : decide (op ≤ 6) = true := decide_eq_true c2
    rw [if_pos c2] at h
    obtain rfl := Option.some.inj h
    go_enter Try.func33, Try.ntmps33
    go_wp2
    go_ret
    exact ⟨rfl, rfl⟩
  rw [if_neg c2] at h
  have e2 : decide (op ≤ 6) = false := decide_eq_false c2
  by_cases c3 : op = 22
  · subst c3
    rw [if_pos rfl] at h
    obtain rfl := Option.some.inj h
    go_enter Try.func33, Try.ntmps33
    go_wp2
    go_ret
    exact ⟨rfl, rfl⟩
  rw [if_neg c3] at h
  have e3 : (op == 22) = false := beq_eq_false_iff_ne.2 c3
  obtain rfl := Option.some.inj h
  go_enter Try.func33, Try.ntmps33
  go_wp2
  go_ret
  exact ⟨rfl, rfl⟩
theorem size_j0 {k : Nat} {op na r : Int} {kids : List S35} (h : headgateref21_Size.j0 k true op na kids = some r) : 0 = r := by
  cases k with
  | zero => cases h
  | succ k => rw [headgateref21_Size.j0, if_pos rfl] at h; exact Option.some.inj h
theorem size_j1 {k : Nat} {op na r : Int} {kids : List S35} (h : headgateref21_Size.j0 k false op na kids = some r) : ∃ kk, kk ≤ k ∧ headgateref21_Size.l0 kk 1 0 op na kids = some r := by
  cases k with
  | zero => cases h
  | succ k => rw [headgateref21_Size.j0, if_neg (by decide)] at h; exact ⟨k, by omega, h⟩
set_option maxHeartbeats 40000000 in
set_option maxRecDepth 100000 in
theorem headgateref21_Size.calls (k : Nat) : ∀ (a0_0 : Int) (a0_1 : Int) (A0_2 : Option Addr) (c0_2 : Nat) (l0_2 : List (S35)) (r : Int) (w : World) (hr0_2 : Kd.C k35 w A0_2 l0_2.length l0_2) (hc0_2 : l0_2.length ≤ c0_2) (h : headgateref21_Size.f k a0_0 a0_1 l0_2 = some r),
    Calls Try.prog 19 #[.agg #[.int .i64 a0_0, .int .i64 a0_1, .slice A0_2 l0_2.length c0_2]] w fun e w' => e = .returned (.int .i64 r) ∧ Below w.heap.size w w' := by
  induction k using Nat.strongRecOn with
  | _ k ih =>
  intro op na A c kids r w hr hc h
  cases k with
  | zero => cases h
  | succ k =>
  rw [headgateref21_Size.f] at h
  by_cases c1 : op < 1
  · rw [if_pos c1] at h
    have e1 : decide (op < 1) = true := decide_eq_true c1
    obtain rfl := size_j0 h
    have hbn : headgateref21_beneath.f op = some (arity2 op) := rbeneath2 op
    obtain ⟨t, ht⟩ : ∃ t, t = arity2 op := ⟨_, rfl⟩
    rw [← ht] at hbn
    go_enter Try.func19, Try.ntmps19
    go_wp2
    obtain ⟨W1, hW1⟩ : ∃ W1, W1 = w.alloc (.cells #[.int .i64 op, .int .i64 na, .slice A kids.length c] 35) := ⟨_, rfl⟩
    have hX1 : W1.heap[w.heap.size]? = some (.cells #[.int .i64 op, .int .i64 na, .slice A kids.length c] 35) := by rw [hW1]; exact heap_alloc_new _ _
    have hb1 : Below w.heap.size w W1 := by rw [hW1]; exact (Below.refl _ _).alloc (Nat.le_refl _) _
    rw [← hW1]
    clear hW1
    obtain ⟨y0, y1, y2⟩ := box35 hX1
    go_quiet ((go_at_call 33; refine Calls.quiet_of_same (beneath_same op t _ hbn)))
    go_wp2
    go_ret
    exact ⟨rfl, pw_below_drewN hb1 _⟩
  rw [if_neg c1] at h
  have e1 : decide (op < 1) = false := decide_eq_false c1
  by_cases c2 : op > 22
  · rw [if_pos c2] at h
    have e2 : decide (22 < op) = true := decide_eq_true c2
    obtain rfl := size_j0 h
    have hbn : headgateref21_beneath.f op = some (arity2 op) := rbeneath2 op
    obtain ⟨t, ht⟩ : ∃ t, t = arity2 op := ⟨_, rfl⟩
    rw [← ht] at hbn
    go_enter Try.func19, Try.ntmps19
    go_wp2
    obtain ⟨W1, hW1⟩ : ∃ W1, W1 = w.alloc (.cells #[.int .i64 op, .int .i64 na, .slice A kids.length c] 35) := ⟨_, rfl⟩
    have hX1 : W1.heap[w.heap.size]? = some (.cells #[.int .i64 op, .int .i64 na, .slice A kids.length c] 35) := by rw [hW1]; exact heap_alloc_new _ _
    have hb1 : Below w.heap.size w W1 := by rw [hW1]; exact (Below.refl _ _).alloc (Nat.le_refl _) _
    rw [← hW1]
    clear hW1
    obtain ⟨y0, y1, y2⟩ := box35 hX1
    go_quiet ((go_at_call 33; refine Calls.quiet_of_same (beneath_same op t _ hbn)))
    go_wp2
    go_ret
    exact ⟨rfl, pw_below_drewN hb1 _⟩
  rw [if_neg c2] at h
  have e2 : decide (22 < op) = false := decide_eq_false c2
  obtain ⟨t, hbn, h⟩ := Option.bind_eq_some_iff.1 h
  by_cases c3 : (kids.length : Int) = t
  rotate_left
  · rw [if_neg c3] at h
    have e3 : ((kids.length : Int) != t) = true := bne_iff_ne.2 c3
    obtain rfl := size_j0 h
    go_enter Try.func19, Try.ntmps19
    go_wp2
    obtain ⟨W1, hW1⟩ : ∃ W1, W1 = w.alloc (.cells #[.int .i64 op, .int .i64 na, .slice A kids.length c] 35) := ⟨_, rfl⟩
    have hX1 : W1.heap[w.heap.size]? = some (.cells #[.int .i64 op, .int .i64 na, .slice A kids.length c] 35) := by rw [hW1]; exact heap_alloc_new _ _
    have hb1 : Below w.heap.size w W1 := by rw [hW1]; exact (Below.refl _ _).alloc (Nat.le_refl _) _
    rw [← hW1]
    clear hW1
    obtain ⟨y0, y1, y2⟩ := box35 hX1
    go_quiet ((go_at_call 33; refine Calls.quiet_of_same (beneath_same op t _ hbn)))
    go_wp2
    go_ret
    exact ⟨rfl, pw_below_drewN hb1 _⟩
  rw [if_pos c3] at h
  have e3 : ((kids.length : Int) != t) = false := bne_eq_false_iff_eq.2 c3
  by_cases c4 : na < 0
  · rw [if_pos c4] at h
    have e4 : decide (na < 0) = true := decide_eq_true c4
    obtain rfl := size_j0 h
    go_enter Try.func19, Try.ntmps19
    go_wp2
    obtain ⟨W1, hW1⟩ : ∃ W1, W1 = w.alloc (.cells #[.int .i64 op, .int .i64 na, .slice A kids.length c] 35) := ⟨_, rfl⟩
    have hX1 : W1.heap[w.heap.size]? = some (.cells #[.int .i64 op, .int .i64 na, .slice A kids.length c] 35) := by rw [hW1]; exact heap_alloc_new _ _
    have hb1 : Below w.heap.size w W1 := by rw [hW1]; exact (Below.refl _ _).alloc (Nat.le_refl _) _
    rw [← hW1]
    clear hW1
    obtain ⟨y0, y1, y2⟩ := box35 hX1
    go_quiet ((go_at_call 33; refine Calls.quiet_of_same (beneath_same op t _ hbn)))
    go_wp2
    go_ret
    exact ⟨rfl, pw_below_drewN hb1 _⟩
  rw [if_neg c4] at h
  have e4 : decide (na < 0) = false := decide_eq_false c4
  by_cases c5 : na > 0
  · rw [if_pos c5] at h
    have e5 : decide (0 < na) = true := decide_eq_true c5
    by_cases c6 : op = 1
    rotate_left
    · have e6 : (op != 1) = true := bne_iff_ne.2 c6
      rw [e6] at h
      obtain rfl := size_j0 h
      go_enter Try.func19, Try.ntmps19
      go_wp2
      obtain ⟨W1, hW1⟩ : ∃ W1, W1 = w.alloc (.cells #[.int .i64 op, .int .i64 na, .slice A kids.length c] 35) := ⟨_, rfl⟩
      have hX1 : W1.heap[w.heap.size]? = some (.cells #[.int .i64 op, .int .i64 na, .slice A kids.length c] 35) := by rw [hW1]; exact heap_alloc_new _ _
      have hb1 : Below w.heap.size w W1 := by rw [hW1]; exact (Below.refl _ _).alloc (Nat.le_refl _) _
      rw [← hW1]
      clear hW1
      obtain ⟨y0, y1, y2⟩ := box35 hX1
      go_quiet ((go_at_call 33; refine Calls.quiet_of_same (beneath_same op t _ hbn)))
      go_wp2
      go_ret
      exact ⟨rfl, pw_below_drewN hb1 _⟩
    have e6 : (op != 1) = false := bne_eq_false_iff_eq.2 c6
    rw [e6] at h
    clear c6
    obtain ⟨kk, hkk, h⟩ := size_j1 h
    clear c3
    go_enter Try.func19, Try.ntmps19
    go_wp2
    obtain ⟨W1, hW1⟩ : ∃ W1, W1 = w.alloc (.cells #[.int .i64 op, .int .i64 na, .slice A kids.length c] 35) := ⟨_, rfl⟩
    have hX1 : W1.heap[w.heap.size]? = some (.cells #[.int .i64 op, .int .i64 na, .slice A kids.length c] 35) := by rw [hW1]; exact heap_alloc_new _ _
    have hb1 : Below w.heap.size w W1 := by rw [hW1]; exact (Below.refl _ _).alloc (Nat.le_refl _) _
    rw [← hW1]
    clear hW1
    obtain ⟨y0, y1, y2⟩ := box35 hX1
    go_quiet ((go_at_call 33; refine Calls.quiet_of_same (beneath_same op t _ hbn)))
    go_wp2
    go_loopg [3, 4] kids.length (fun kq v3 v4 wr => ∃ (x : Int) (i kk : Nat), v3 = .int .i64 x ∧ v4 = .int .i64 (i : Int) ∧ kids.length - i ≤ kq ∧ kk ≤ k ∧ headgateref21_Size.l0 kk x (i : Int) op na kids = some r ∧ Below w.heap.size w wr ∧ wr.heap[w.heap.size]? = some (.cells #[.int .i64 op, .int .i64 na, .slice A kids.length c] 35))
    case atStart => exact ⟨1, 0, kk, rfl, rfl, by omega, by omega, h, pw_below_drewN hb1 _, hX1⟩
    case round =>
      obtain ⟨x, i, kk, rfl, rfl, hik, hkk, h, hb, hX⟩ := hrel
      obtain ⟨z0, z1, z2⟩ := box35 hX
      cases kk with
      | zero => cases h
      | succ kk =>
      rw [headgateref21_Size.l0] at h
      by_cases hi : i < kids.length
      rotate_left
      · rw [if_neg (by omega)] at h
        obtain rfl := Option.some.inj h
        have d1 : decide ((i : Int) < (kids.length : Int)) = false := decide_eq_false (by omega)
        go_wp2
        go_ret
        exact ⟨rfl, hb⟩
      rw [if_pos (by omega), if_pos (by omega)] at h
      obtain ⟨q, h3, h⟩ := Option.bind_eq_some_iff.1 h
      have d1 : decide ((i : Int) < (kids.length : Int)) = true := decide_eq_true (by omega)
      have hrr := Kd.C_below hr hb
      obtain ⟨ad, B0, d0, eA, x0, x1, x2, q0, C0⟩ := kid_at hrr i hi
      subst eA
      have hle := hr.2.1
      have ew : wrap64 ((i : Int) + 1) = ((i + 1 : Nat) : Int) := by unfold wrap64; omega
      have ARMF := ih kk (by omega) (rd_T35 kids (i : Int)).f0 (rd_T35 kids (i : Int)).f1 B0 d0 (rd_T35 kids (i : Int)).f2 q wr C0 q0 h3
      by_cases c7 : q = 0
      · subst c7
        rw [if_pos rfl] at h
        obtain rfl := Option.some.inj h
        go_wp2_with (first | (go_at_call 19; (with_reducible refine ARMF.mono ?_); rintro e w2 ⟨rfl, hb2⟩; have hX2 := (hb2.block _ (lt_of_block hX)).trans hX; obtain ⟨u0, u1, u2⟩ := box35 hX2))
        go_ret
        exact ⟨rfl, below_then hb hb.size hb2⟩
      rw [if_neg c7] at h
      have e7 : (q == 0) = false := beq_eq_false_iff_ne.2 c7
      by_cases c8 : wrap64 (x + q) > 256
      · rw [if_pos c8] at h
        obtain rfl := Option.some.inj h
        have e8 : decide (256 < wrap64 (x + q)) = true := decide_eq_true c8
        go_wp2_with (first | (go_at_call 19; (with_reducible refine ARMF.mono ?_); rintro e w2 ⟨rfl, hb2⟩; have hX2 := (hb2.block _ (lt_of_block hX)).trans hX; obtain ⟨u0, u1, u2⟩ := box35 hX2))
        go_ret
        exact ⟨rfl, below_then hb hb.size hb2⟩
      rw [if_neg c8, ew] at h
      have e8 : decide (256 < wrap64 (x + q)) = false := decide_eq_false c8
      clear ew
      cases gk with
      | zero => omega
      | succ gk =>
      go_wp2_with (first | (go_at_call 19; (with_reducible refine ARMF.mono ?_); rintro e w2 ⟨rfl, hb2⟩; have hX2 := (hb2.block _ (lt_of_block hX)).trans hX; obtain ⟨u0, u1, u2⟩ := box35 hX2))
      go_roundg gk
      case measure => omega
      case rel => exact ⟨_, i + 1, kk, rfl, by first | rfl | (congr 1; unfold wrap64; omega), by omega, by omega, h, below_then hb hb.size hb2, hX2⟩
  rw [if_neg c5] at h
  have e5 : decide (0 < na) = false := decide_eq_false c5
  obtain ⟨kk, hkk, h⟩ := size_j1 h
  clear c3
  go_enter Try.func19, Try.ntmps19
  go_wp2
  obtain ⟨W1, hW1⟩ : ∃ W1, W1 = w.alloc (.cells #[.int .i64 op, .int .i64 na, .slice A kids.length c] 35) := ⟨_, rfl⟩
  have hX1 : W1.heap[w.heap.size]? = some (.cells #[.int .i64 op, .int .i64 na, .slice A kids.length c] 35) := by rw [hW1]; exact heap_alloc_new _ _
  have hb1 : Below w.heap.size w W1 := by rw [hW1]; exact (Below.refl _ _).alloc (Nat.le_refl _) _
  rw [← hW1]
  clear hW1
  obtain ⟨y0, y1, y2⟩ := box35 hX1
  go_quiet ((go_at_call 33; refine Calls.quiet_of_same (beneath_same op t _ hbn)))
  go_wp2
  go_loopg [3, 4] kids.length (fun kq v3 v4 wr => ∃ (x : Int) (i kk : Nat), v3 = .int .i64 x ∧ v4 = .int .i64 (i : Int) ∧ kids.length - i ≤ kq ∧ kk ≤ k ∧ headgateref21_Size.l0 kk x (i : Int) op na kids = some r ∧ Below w.heap.size w wr ∧ wr.heap[w.heap.size]? = some (.cells #[.int .i64 op, .int .i64 na, .slice A kids.length c] 35))
  case atStart => exact ⟨1, 0, kk, rfl, rfl, by omega, by omega, h, pw_below_drewN hb1 _, hX1⟩
  case round =>
    obtain ⟨x, i, kk, rfl, rfl, hik, hkk, h, hb, hX⟩ := hrel
    obtain ⟨z0, z1, z2⟩ := box35 hX
    cases kk with
    | zero => cases h
    | succ kk =>
    rw [headgateref21_Size.l0] at h
    by_cases hi : i < kids.length
    rotate_left
    · rw [if_neg (by omega)] at h
      obtain rfl := Option.some.inj h
      have d1 : decide ((i : Int) < (kids.length : Int)) = false := decide_eq_false (by omega)
      go_wp2
      go_ret
      exact ⟨rfl, hb⟩
    rw [if_pos (by omega), if_pos (by omega)] at h
    obtain ⟨q, h3, h⟩ := Option.bind_eq_some_iff.1 h
    have d1 : decide ((i : Int) < (kids.length : Int)) = true := decide_eq_true (by omega)
    have hrr := Kd.C_below hr hb
    obtain ⟨ad, B0, d0, eA, x0, x1, x2, q0, C0⟩ := kid_at hrr i hi
    subst eA
    have hle := hr.2.1
    have ew : wrap64 ((i : Int) + 1) = ((i + 1 : Nat) : Int) := by unfold wrap64; omega
    have ARMF := ih kk (by omega) (rd_T35 kids (i : Int)).f0 (rd_T35 kids (i : Int)).f1 B0 d0 (rd_T35 kids (i : Int)).f2 q wr C0 q0 h3
    by_cases c7 : q = 0
    · subst c7
      rw [if_pos rfl] at h
      obtain rfl := Option.some.inj h
      go_wp2_with (first | (go_at_call 19; (with_reducible refine ARMF.mono ?_); rintro e w2 ⟨rfl, hb2⟩; have hX2 := (hb2.block _ (lt_of_block hX)).trans hX; obtain ⟨u0, u1, u2⟩ := box35 hX2))
      go_ret
      exact ⟨rfl, below_then hb hb.size hb2⟩
    rw [if_neg c7] at h
    have e7 : (q == 0) = false := beq_eq_false_iff_ne.2 c7
    by_cases c8 : wrap64 (x + q) > 256
    · rw [if_pos c8] at h
      obtain rfl := Option.some.inj h
      have e8 : decide (256 < wrap64 (x + q)) = true := decide_eq_true c8
      go_wp2_with (first | (go_at_call 19; (with_reducible refine ARMF.mono ?_); rintro e w2 ⟨rfl, hb2⟩; have hX2 := (hb2.block _ (lt_of_block hX)).trans hX; obtain ⟨u0, u1, u2⟩ := box35 hX2))
      go_ret
      exact ⟨rfl, below_then hb hb.size hb2⟩
    rw [if_neg c8, ew] at h
    have e8 : decide (256 < wrap64 (x + q)) = false := decide_eq_false c8
    clear ew
    cases gk with
    | zero => omega
    | succ gk =>
    go_wp2_with (first | (go_at_call 19; (with_reducible refine ARMF.mono ?_); rintro e w2 ⟨rfl, hb2⟩; have hX2 := (hb2.block _ (lt_of_block hX)).trans hX; obtain ⟨u0, u1, u2⟩ := box35 hX2))
    go_roundg gk
    case measure => omega
    case rel => exact ⟨_, i + 1, kk, rfl, by first | rfl | (congr 1; unfold wrap64; omega), by omega, by omega, h, below_then hb hb.size hb2, hX2⟩

end Go.Proofs.Ytekbcfgcojecmaa.P
