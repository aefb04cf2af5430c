/- Any code leaves the number that the document says: the walk of the law and of the document's machine, out of the plain laws. No condition. -/
import Derived.Test.YtekbcfgcojecmaaCodeMay
import Derived.Test.YtekbcfgcojecmaaF29
import Derived.StillTailTactics
namespace Go.Proofs.Ytekbcfgcojecmaa.P
open Go.RowKit Go.Proofs.YtekbcfgcojecmaaW.PrintWords Go.Proofs.YtekbcfgcojecmaaW.PrintLast Go.Proofs.YtekbcfgcojecmaaW.PrintMore
set_option linter.unusedVariables false
set_option linter.unusedSimpArgs false
theorem rdOf_eq (xs : List Int) (i : Int) : rdOf (0 : Int) xs i = rd xs i := rfl
theorem R_ints {B : Nat} {w : World} {ok : Nat → Prop} {A : Option Addr} {n c : Nat} {s : List Int} (h : (Kd.int .i64).R 3 w B ok (.slice A n c) s) (hn : 0 < n) : ∃ g, A = some ⟨g, 0, none⟩ ∧ B ≤ g := by
  obtain ⟨h0, inner, ⟨_, ho⟩, _⟩ := h
  rcases ho with ⟨hv, _⟩ | ⟨g, cap, cur, hv, hb, _⟩
  · injection hv with _ h2 _; omega
  · injection hv with ha _ _
    subst ha
    exact ⟨g, rfl, hb⟩
set_option maxHeartbeats 40000000 in
set_option maxRecDepth 100000 in
theorem runR_calls (A : Option Addr) (c : Nat) (l : List S54) (key time v : Int) (w : World) (hr : Kd.C k54 w A l.length l) (hc : l.length ≤ c) (hll : l.length ≤ 1024) (r : Int) (k : Nat) (hk : headgateref22_May.f k l = some true)
    (h : runR apS l key time v (l.length + 1) 0 [] = some r) :
    Calls Try.prog 15 #[.slice A l.length c, .int .i64 key, .int .i64 time, .int .i64 v] w fun e w' => e = .returned (.tuple #[.int .i64 r, .int .i64 0]) ∧ Below w.heap.size w w' := by
  go_enter Try.func15, Try.ntmps15
  go_wp2_with (first | (go_at_call 12; (with_reducible refine (headgateref22_May.calls k A c l true _ hr hc hk).mono ?_); rintro e w1 ⟨rfl, hb1⟩))
  go_loopg [10, 11] l.length (fun kq v10 v11 wr => ∃ (at_ k : Nat) (s : List Int), v11 = .int .i64 (at_ : Int) ∧ l.length - at_ ≤ kq ∧ s.length ≤ at_ ∧ runR apS l key time v k at_ s = some r ∧ (Kd.int .i64).R 3 wr w.heap.size (fun _ => True) v10 s ∧ Below w.heap.size w wr)
  case atStart => exact ⟨0, _, [], rfl, by omega, Nat.le_refl _, h, Kd.R_nil _ _ _ _ _, hb1⟩
  case round =>
    obtain ⟨at_, k, s, rfl, hgk, hsl, h, HO, hb⟩ := hrel
    obtain ⟨A1, cp, rfl, hlc, _⟩ := Kd.R_reads HO
    cases k with
    | zero => cases h
    | succ k =>
    simp only [runR] at h
    by_cases e0 : at_ < l.length
    rotate_left
    · rw [if_neg e0] at h
      split at h
      case isFalse => cases h
      case isTrue h1 =>
      obtain rfl := Option.some.inj h
      obtain ⟨g, rfl, hg⟩ := R_ints HO (by omega)
      obtain ⟨z0, z1⟩ := Kd.R_celln (0 : Int) HO 0 (by omega) (by omega)
      rw [rdOf_eq, show (0 : Int).toNat = 0 from rfl] at z0
      rw [show (0 : Int).toNat = 0 from rfl] at z1
      have d0 : decide ((at_ : Int) < (l.length : Int)) = false := decide_eq_false (by omega)
      have d1 : decide ((0 : Int) < (s.length : Int)) = true := decide_eq_true (by omega)
      go_wp2
      go_ret2
      exact ⟨rfl, hb⟩
    rw [if_pos e0] at h
    obtain ⟨q, hq, h⟩ := Option.bind_eq_some_iff.1 h
    obtain ⟨at2, s2⟩ := q
    simp only at h
    have hrr := Kd.C_below hr hb
    obtain ⟨ad, eA, x0, x1⟩ := at_T54 hrr (at_ : Int) (by omega) (by omega)
    subst eA
    rw [Int.toNat_natCast] at x0 x1
    unfold stepR at hq
    revert hq x0 x1
    generalize rd_T54 l (at_ : Int) = x
    intro hq x0 x1
    obtain ⟨op, na⟩ := x
    simp only at hq x0 x1
    have d1 : decide ((at_ : Int) < (l.length : Int)) = true := decide_eq_true (by omega)
    cases gk with
    | zero => omega
    | succ gk =>
    by_cases c1 : op = 1
    · subst c1
      rw [if_pos rfl] at hq
      obtain ⟨rfl, rfl⟩ : at_ + 1 = at2 ∧ s ++ [na] = s2 := by simpa using hq
      clear hq
      go_wp2_with (first | ((with_reducible refine gate_builtin (b := .append) (xs := #[.tmp 32, .tmp 35]) rfl ?_); (try (refine gate_guard (by rfl) ?_; dsimp only)); at_builtin; refine Kd.R_append (Kd.int .i64) (w0 := w) w.heap.size rfl (.tmp 32) (.tmp 35) 49 3 (.int .i64 0) 8 rfl Try.underlying49 info3 rfl (by decide) (by omega) (.slice A1 s.length cp) s na [.int .i64 na] (fun _ => True) (fun _ => False) rfl (by rw [World.size_alloc]; rfl) ?aP (fun _ hk => hk.elim) ?aF ?aO ?aB ?aS ?aL ?_; (case aP => exact rfl); (case aB => exact hb.alloc hb.size _); (case aF => exact fun _ _ => trivial); (case aO => exact Kd.R_alloc HO _); (case aS => exact (hb.alloc hb.size _).size); (case aL => omega); intro v1 w2 ho hb2 hg hat2))
      go_roundg gk
      case measure => omega
      case rel =>
        exact ⟨at_ + 1, _, s ++ [na], by (first | rfl | (congr 1)), by omega, by (first | omega | (simp; omega)), h, ho, hb2⟩
    have b1 : (op == 1) = false := beq_eq_false_iff_ne.2 c1
    by_cases c2 : op = 2
    · subst c2
      rw [if_neg (by decide), if_pos rfl] at hq
      obtain ⟨rfl, rfl⟩ : at_ + 1 = at2 ∧ s ++ [key] = s2 := by simpa using hq
      clear hq
      go_wp2_with (first | ((with_reducible refine gate_builtin (b := .append) (xs := #[.tmp 40, .tmp 42]) rfl ?_); (try (refine gate_guard (by rfl) ?_; dsimp only)); at_builtin; refine Kd.R_append (Kd.int .i64) (w0 := w) w.heap.size rfl (.tmp 40) (.tmp 42) 49 3 (.int .i64 0) 8 rfl Try.underlying49 info3 rfl (by decide) (by omega) (.slice A1 s.length cp) s key [.int .i64 key] (fun _ => True) (fun _ => False) rfl (by rw [World.size_alloc]; rfl) ?aP (fun _ hk => hk.elim) ?aF ?aO ?aB ?aS ?aL ?_; (case aP => exact rfl); (case aB => exact hb.alloc hb.size _); (case aF => exact fun _ _ => trivial); (case aO => exact Kd.R_alloc HO _); (case aS => exact (hb.alloc hb.size _).size); (case aL => omega); intro v1 w2 ho hb2 hg hat2))
      go_roundg gk
      case measure => omega
      case rel =>
        exact ⟨at_ + 1, _, s ++ [key], by (first | rfl | (congr 1)), by omega, by (first | omega | (simp; omega)), h, ho, hb2⟩
    have b2 : (op == 2) = false := beq_eq_false_iff_ne.2 c2
    by_cases c3 : op = 3
    · subst c3
      rw [if_neg (by decide), if_neg (by decide), if_pos rfl] at hq
      obtain ⟨rfl, rfl⟩ : at_ + 1 = at2 ∧ s ++ [time] = s2 := by simpa using hq
      clear hq
      go_wp2_with (first | ((with_reducible refine gate_builtin (b := .append) (xs := #[.tmp 47, .tmp 49]) rfl ?_); (try (refine gate_guard (by rfl) ?_; dsimp only)); at_builtin; refine Kd.R_append (Kd.int .i64) (w0 := w) w.heap.size rfl (.tmp 47) (.tmp 49) 49 3 (.int .i64 0) 8 rfl Try.underlying49 info3 rfl (by decide) (by omega) (.slice A1 s.length cp) s time [.int .i64 time] (fun _ => True) (fun _ => False) rfl (by rw [World.size_alloc]; rfl) ?aP (fun _ hk => hk.elim) ?aF ?aO ?aB ?aS ?aL ?_; (case aP => exact rfl); (case aB => exact hb.alloc hb.size _); (case aF => exact fun _ _ => trivial); (case aO => exact Kd.R_alloc HO _); (case aS => exact (hb.alloc hb.size _).size); (case aL => omega); intro v1 w2 ho hb2 hg hat2))
      go_roundg gk
      case measure => omega
      case rel =>
        exact ⟨at_ + 1, _, s ++ [time], by (first | rfl | (congr 1)), by omega, by (first | omega | (simp; omega)), h, ho, hb2⟩
    have b3 : (op == 3) = false := beq_eq_false_iff_ne.2 c3
    by_cases c4 : op = 4
    · subst c4
      rw [if_neg (by decide), if_neg (by decide), if_neg (by decide), if_pos rfl] at hq
      obtain ⟨rfl, rfl⟩ : at_ + 1 = at2 ∧ s ++ [v] = s2 := by simpa using hq
      clear hq
      go_wp2_with (first | ((with_reducible refine gate_builtin (b := .append) (xs := #[.tmp 54, .tmp 56]) rfl ?_); (try (refine gate_guard (by rfl) ?_; dsimp only)); at_builtin; refine Kd.R_append (Kd.int .i64) (w0 := w) w.heap.size rfl (.tmp 54) (.tmp 56) 49 3 (.int .i64 0) 8 rfl Try.underlying49 info3 rfl (by decide) (by omega) (.slice A1 s.length cp) s v [.int .i64 v] (fun _ => True) (fun _ => False) rfl (by rw [World.size_alloc]; rfl) ?aP (fun _ hk => hk.elim) ?aF ?aO ?aB ?aS ?aL ?_; (case aP => exact rfl); (case aB => exact hb.alloc hb.size _); (case aF => exact fun _ _ => trivial); (case aO => exact Kd.R_alloc HO _); (case aS => exact (hb.alloc hb.size _).size); (case aL => omega); intro v1 w2 ho hb2 hg hat2))
      go_roundg gk
      case measure => omega
      case rel =>
        exact ⟨at_ + 1, _, s ++ [v], by (first | rfl | (congr 1)), by omega, by (first | omega | (simp; omega)), h, ho, hb2⟩
    have b4 : (op == 4) = false := beq_eq_false_iff_ne.2 c4
    rw [if_neg c1, if_neg c2, if_neg c3, if_neg c4] at hq
    by_cases c5 : op = 30
    · subst c5
      rw [if_pos rfl] at hq
      split at hq
      case isFalse => cases hq
      case isTrue ht =>
      obtain ⟨rfl, rfl⟩ : na.toNat = at2 ∧ s = s2 := by simpa using hq
      clear hq
      obtain ⟨m, rfl⟩ : ∃ m : Nat, na = (m : Int) := ⟨na.toNat, by omega⟩
      rw [Int.toNat_natCast] at h
      go_wp2
      go_roundg gk
      case measure => omega
      case rel =>
        exact ⟨m, _, s, by (first | rfl | (congr 1)), by omega, by (first | omega | (simp; omega)), h, Kd.R_alloc HO _, hb.alloc hb.size _⟩
    rw [if_neg c5] at hq
    have b5 : (op == 30) = false := beq_eq_false_iff_ne.2 c5
    by_cases c6 : op = 31
    · subst c6
      rw [if_pos rfl] at hq
      split at hq
      case isFalse => cases hq
      case isTrue ht =>
      obtain ⟨m, rfl⟩ : ∃ m : Nat, na = (m : Int) := ⟨na.toNat, by omega⟩
      rw [Int.toNat_natCast] at hq
      obtain ⟨t, ets⟩ : ∃ t, s.length = t + 1 := ⟨s.length - 1, by omega⟩
      obtain ⟨g, rfl, hg⟩ := R_ints HO (by omega)
      obtain ⟨z0, z1⟩ := Kd.R_celln (0 : Int) HO (t : Int) (by omega) (by omega)
      rw [rdOf_eq, Int.toNat_natCast] at z0
      rw [Int.toNat_natCast] at z1
      have hgl : g < wr.heap.size := Kd.R_lt HO g rfl
      rw [ets, Nat.add_sub_cancel] at hq
      have HT := Kd.R_take HO (m := t) (by omega)
      rw [ets] at HO hlc
      have dt : decide ((t : Int) < (t : Int) + 1) = true := decide_eq_true (by omega)
      have et : (t : Int) + 1 - 1 = (t : Int) := by omega
      have dc : (t ≤ cp) = True := eq_true (by omega)
      by_cases cz : rd s (t : Int) = 0
      · rw [if_pos cz] at hq
        obtain ⟨rfl, rfl⟩ : m = at2 ∧ s.take t = s2 := by simpa using hq
        clear hq
        have dz : (rd s (t : Int) == 0) = true := beq_iff_eq.2 cz
        rw [ets]
        go_wp2
        go_roundg gk
        case measure => omega
        case rel =>
          exact ⟨m, _, s.take t, by (first | rfl | (congr 1)), by omega, by (first | omega | (simp; omega)), h, Kd.R_alloc HT _, hb.alloc hb.size _⟩
      · rw [if_neg cz] at hq
        obtain ⟨rfl, rfl⟩ : at_ + 1 = at2 ∧ s.take t = s2 := by simpa using hq
        clear hq
        have dz : (rd s (t : Int) == 0) = false := beq_eq_false_iff_ne.2 cz
        rw [ets]
        go_wp2
        go_roundg gk
        case measure => omega
        case rel =>
          exact ⟨at_ + 1, _, s.take t, by (first | rfl | (congr 1)), by omega, by (first | omega | (simp; omega)), h, Kd.R_alloc HT _, hb.alloc hb.size _⟩
    rw [if_neg c6] at hq
    have b6 : (op == 31) = false := beq_eq_false_iff_ne.2 c6
    by_cases c32 : op = 32
    · subst c32
      rw [if_pos rfl] at hq
      split at hq
      case isFalse => cases hq
      case isTrue ht =>
      obtain ⟨t, ets⟩ : ∃ t, s.length = t + 1 := ⟨s.length - 1, by omega⟩
      rw [ets, Nat.add_sub_cancel] at hq
      obtain ⟨rfl, rfl⟩ : at_ + 1 = at2 ∧ s.set t (apS 13 (rd s (t : Int)) 0) = s2 := by simpa using hq
      clear hq
      obtain ⟨g, rfl, hg⟩ := R_ints HO (by omega)
      obtain ⟨z0, z1⟩ := Kd.R_celln (0 : Int) HO (t : Int) (by omega) (by omega)
      rw [rdOf_eq, Int.toNat_natCast] at z0
      rw [Int.toNat_natCast] at z1
      have HP := Kd.R_putn HO (t : Int) (apS 13 (rd s (t : Int)) 0)
      rw [Int.toNat_natCast] at HP
      have hgl : g < wr.heap.size := Kd.R_lt HO g rfl
      rw [ets] at HP hlc
      have dt : decide ((t : Int) < (t : Int) + 1) = true := decide_eq_true (by omega)
      have et : (t : Int) + 1 - 1 = (t : Int) := by omega
      rw [ets]
      clear HO
      go_wp2_with (first | (go_at_call 29; (with_reducible refine (applyR_calls _ _ _ _).mono ?_); rintro e w2 ⟨rfl, rfl⟩))
      go_roundg gk
      case measure => omega
      case rel =>
        exact ⟨at_ + 1, _, s.set t (apS 13 (rd s (t : Int)) 0), by (first | rfl | (congr 1)), by omega, by (first | omega | (simp; omega)), h, Kd.R_alloc HP _, (hb.setCell (p := ⟨g, t, none⟩) hg _).alloc (hb.setCell (p := ⟨g, t, none⟩) hg _).size _⟩
    rw [if_neg c32] at hq
    have b32 : (op == 32) = false := beq_eq_false_iff_ne.2 c32
    by_cases c7 : op ≤ 6
    · rw [if_pos c7] at hq
      have d7 : decide (op ≤ 6) = true := decide_eq_true c7
      split at hq
      case isFalse => cases hq
      case isTrue ht =>
      obtain ⟨t, ets⟩ : ∃ t, s.length = t + 1 := ⟨s.length - 1, by omega⟩
      rw [ets, Nat.add_sub_cancel] at hq
      obtain ⟨rfl, rfl⟩ : at_ + 1 = at2 ∧ s.set t (apS op (rd s (t : Int)) 0) = s2 := by simpa using hq
      clear hq
      obtain ⟨g, rfl, hg⟩ := R_ints HO (by omega)
      have et : (t : Int) + 1 - 1 = (t : Int) := by omega
      have v5 : ((t : Int) < (t : Int) + 1) = True := eq_true (by omega)
      have v0 : IntKind.i64.wrap (t : Int) = (t : Int) := by rw [i64_w]; unfold wrap64; omega
      have v4 : (0 ≤ (t : Int)) = True := eq_true (by omega)
      rw [ets]
      go_wp2
      obtain ⟨W2, hW2⟩ : ∃ W2, W2 = World.drew (wr.alloc (.cells #[.int .i64 op, .int .i64 na] 54)) := ⟨_, rfl⟩
      have HO2 : (Kd.int .i64).R 3 W2 w.heap.size (fun _ => True) (.slice (some ⟨g, 0, none⟩) s.length cp) s := by rw [hW2]; exact Kd.R_drew (Kd.R_alloc HO _)
      have hB2 : Below w.heap.size w W2 := by rw [hW2]; exact (hb.alloc hb.size _).drew
      have hX2 : W2.heap[wr.heap.size]? = some (.cells #[.int .i64 op, .int .i64 na] 54 (0, 0)) := by rw [hW2]; exact heap_alloc_new _ _
      have y0 := box54_0 hX2
      have y1 := box54_1 hX2
      obtain ⟨z0, z1⟩ := Kd.R_celln (0 : Int) HO2 (t : Int) (by omega) (by omega)
      rw [rdOf_eq, Int.toNat_natCast] at z0
      rw [Int.toNat_natCast] at z1
      have HP := Kd.R_putn HO2 (t : Int) (apS op (rd s (t : Int)) 0)
      rw [Int.toNat_natCast] at HP
      rw [ets] at HP hlc
      refine wp_region_still_tail 12 (by kernel_rfl) (by kernel_rfl) ?_
      change wpStill _ _ (World.drew _) (fun a' => wpList _ _ _ _ a' (World.drew _)) _ _
      rw [← hW2]
      clear hW2 hX2 HO2 HO
      simp only [List.take_succ_cons, List.take_zero, List.drop_succ_cons, List.drop_zero]
      repeat still_step
      still_call (applyR_calls _ _ _ _)
      repeat still_step
      refine wpStill_nil ?_
      go_wp2
      go_roundg gk
      case measure => omega
      case rel =>
        exact ⟨at_ + 1, _, s.set t (apS op (rd s (t : Int)) 0), by (first | rfl | (congr 1)), by omega, by (first | omega | (simp; omega)), h, HP, (hB2.setCell (p := ⟨g, t, none⟩) hg _)⟩
    rw [if_neg c7] at hq
    have d7 : decide (op ≤ 6) = false := decide_eq_false c7
    split at hq
    case isFalse => cases hq
    case isTrue ht =>
    obtain ⟨t, ets⟩ : ∃ t, s.length = t + 2 := ⟨s.length - 2, by omega⟩
    rw [ets, Nat.add_sub_cancel, show t + 2 - 1 = t + 1 by omega] at hq
    obtain ⟨rfl, rfl⟩ : at_ + 1 = at2 ∧ (s.set t (apS op (rd s (t : Int)) (rd s ((t + 1 : Nat) : Int)))).take (t + 1) = s2 := by simpa using hq
    clear hq
    obtain ⟨g, rfl, hg⟩ := R_ints HO (by omega)
    have et : (t : Int) + 2 - 2 = (t : Int) := by omega
    have et1 : (t : Int) + 2 - 1 = (t : Int) + 1 := by omega
    have v5 : ((t : Int) < (t : Int) + 2) = True := eq_true (by omega)
    have v6 : IntKind.i64.wrap ((t : Int) + 1) = (t : Int) + 1 := by rw [i64_w]; unfold wrap64; omega
    have v7 : (0 ≤ (t : Int) + 1) = True := eq_true (by omega)
    have v8 : ((t : Int) + 1 < (t : Int) + 2) = True := eq_true (by omega)
    have v9 : ((t : Int) + 1).toNat = t + 1 := by omega
    have v10 : (t + 1 ≤ cp) = True := eq_true (by omega)
    have v0 : IntKind.i64.wrap (t : Int) = (t : Int) := by rw [i64_w]; unfold wrap64; omega
    have v4 : (0 ≤ (t : Int)) = True := eq_true (by omega)
    rw [ets]
    go_wp2
    obtain ⟨W2, hW2⟩ : ∃ W2, W2 = World.drew (wr.alloc (.cells #[.int .i64 op, .int .i64 na] 54)) := ⟨_, rfl⟩
    have HO2 : (Kd.int .i64).R 3 W2 w.heap.size (fun _ => True) (.slice (some ⟨g, 0, none⟩) s.length cp) s := by rw [hW2]; exact Kd.R_drew (Kd.R_alloc HO _)
    have hB2 : Below w.heap.size w W2 := by rw [hW2]; exact (hb.alloc hb.size _).drew
    have hX2 : W2.heap[wr.heap.size]? = some (.cells #[.int .i64 op, .int .i64 na] 54 (0, 0)) := by rw [hW2]; exact heap_alloc_new _ _
    have y0 := box54_0 hX2
    have y1 := box54_1 hX2
    obtain ⟨z0, z1⟩ := Kd.R_celln (0 : Int) HO2 (t : Int) (by omega) (by omega)
    rw [rdOf_eq, Int.toNat_natCast] at z0
    rw [Int.toNat_natCast] at z1
    have HP := Kd.R_putn HO2 (t : Int) (apS op (rd s (t : Int)) (rd s ((t + 1 : Nat) : Int)))
    rw [Int.toNat_natCast] at HP
    obtain ⟨z2, z3⟩ := Kd.R_celln (0 : Int) HO2 ((t + 1 : Nat) : Int) (by omega) (by omega)
    rw [rdOf_eq, Int.toNat_natCast] at z2
    rw [Int.toNat_natCast] at z3
    have HT := Kd.R_take HP (m := t + 1) (by rw [List.length_set]; omega)
    rw [ets] at HP hlc
    refine wp_region_still_tail 17 (by kernel_rfl) (by kernel_rfl) ?_
    change wpStill _ _ (World.drew _) (fun a' => wpList _ _ _ _ a' (World.drew _)) _ _
    rw [← hW2]
    clear hW2 hX2 HO2 HO
    simp only [List.take_succ_cons, List.take_zero, List.drop_succ_cons, List.drop_zero]
    repeat still_step
    still_call (applyR_calls _ _ _ _)
    repeat still_step
    refine wpStill_nil ?_
    go_wp2
    go_roundg gk
    case measure => omega
    case rel =>
      exact ⟨at_ + 1, _, (s.set t (apS op (rd s (t : Int)) (rd s ((t + 1 : Nat) : Int)))).take (t + 1), by (first | rfl | (congr 1)), by omega, by (first | omega | (simp; omega)), h, HT, (hB2.setCell (p := ⟨g, t, none⟩) hg _)⟩
set_option maxRecDepth 100000 in
theorem runR_bad (A : Option Addr) (c : Nat) (l : List S54) (key time v : Int) (w : World) (hr : Kd.C k54 w A l.length l) (hc : l.length ≤ c) (k : Nat) (hk : headgateref22_May.f k l = some false) :
    Calls Try.prog 15 #[.slice A l.length c, .int .i64 key, .int .i64 time, .int .i64 v] w fun e w' => e = .returned (.tuple #[.int .i64 0, .int .i64 1]) ∧ Below w.heap.size w w' := by
  go_enter Try.func15, Try.ntmps15
  go_wp2_with (first | (go_at_call 12; (with_reducible refine (headgateref22_May.calls k A c l false _ hr hc hk).mono ?_); rintro e w1 ⟨rfl, hb1⟩))
  go_ret2
  exact ⟨rfl, hb1⟩

theorem mn_eq (a b : Int) : mn a b = if a < b then a else b := by unfold mn; split <;> split <;> omega
theorem mx_eq (a b : Int) : mx a b = if b < a then a else b := by unfold mx; split <;> split <;> omega
theorem apC_eq : apC = apS := by
  funext op a b
  unfold apC
  have h : tree_Apply.f 3 op a b = some (apS op a b) := by
    unfold tree_Apply.f apS
    simp only [tree_Apply.j0, tree_truth.f]
    by_cases c5 : op = 5
    · subst c5; simp [mn_eq, mx_eq]; try (repeat' split); all_goals (first | rfl | omega | simp_all)
    by_cases c6 : op = 6
    · subst c6; simp [mn_eq, mx_eq]; try (repeat' split); all_goals (first | rfl | omega | simp_all)
    by_cases c7 : op = 7
    · subst c7; simp [mn_eq, mx_eq]; try (repeat' split); all_goals (first | rfl | omega | simp_all)
    by_cases c8 : op = 8
    · subst c8; simp [mn_eq, mx_eq]; try (repeat' split); all_goals (first | rfl | omega | simp_all)
    by_cases c9 : op = 9
    · subst c9; simp [mn_eq, mx_eq]; try (repeat' split); all_goals (first | rfl | omega | simp_all)
    by_cases c10 : op = 10
    · subst c10; simp [mn_eq, mx_eq]; try (repeat' split); all_goals (first | rfl | omega | simp_all)
    by_cases c11 : op = 11
    · subst c11; simp [mn_eq, mx_eq]; try (repeat' split); all_goals (first | rfl | omega | simp_all)
    by_cases c12 : op = 12
    · subst c12; simp [mn_eq, mx_eq]; try (repeat' split); all_goals (first | rfl | omega | simp_all)
    by_cases c13 : op = 13
    · subst c13; simp [mn_eq, mx_eq]; try (repeat' split); all_goals (first | rfl | omega | simp_all)
    by_cases c14 : op = 14
    · subst c14; simp [mn_eq, mx_eq]; try (repeat' split); all_goals (first | rfl | omega | simp_all)
    by_cases c15 : op = 15
    · subst c15; simp [mn_eq, mx_eq]; try (repeat' split); all_goals (first | rfl | omega | simp_all)
    by_cases c16 : op = 16
    · subst c16; simp [mn_eq, mx_eq]; try (repeat' split); all_goals (first | rfl | omega | simp_all)
    by_cases c17 : op = 17
    · subst c17; simp [mn_eq, mx_eq]; try (repeat' split); all_goals (first | rfl | omega | simp_all)
    by_cases c18 : op = 18
    · subst c18; simp [mn_eq, mx_eq]; try (repeat' split); all_goals (first | rfl | omega | simp_all)
    by_cases c19 : op = 19
    · subst c19; simp [mn_eq, mx_eq]; try (repeat' split); all_goals (first | rfl | omega | simp_all)
    by_cases c20 : op = 20
    · subst c20; simp [mn_eq, mx_eq]; try (repeat' split); all_goals (first | rfl | omega | simp_all)
    by_cases c21 : op = 21
    · subst c21; simp [mn_eq, mx_eq]; try (repeat' split); all_goals (first | rfl | omega | simp_all)
    simp [c5, c6, c7, c8, c9, c10, c11, c12, c13, c14, c15, c16, c17, c18, c19, c20, c21]
  rw [h]
  rfl
/-- What the code leaves. -/
theorem runs_same (l : List S54) (hO : hOk l = true) (key time v : Int) : ∃ r, runC apC l key time v (l.length + 1) 0 0 (List.replicate 65 0) = some r ∧ runR apS l key time v (l.length + 1) 0 [] = some r := by
  obtain ⟨H, g⟩ := good_of_hOk hO
  obtain ⟨r, h1, h2⟩ := run_both g apC key time v (l.length + 1) 0 0 (List.replicate 65 0) (by omega) (Nat.zero_le _) (by simpa using g.inv.zero) (by simp)
  rw [List.take_zero] at h2
  exact ⟨r, h1, by rw [← apC_eq]; exact h2⟩
set_option maxHeartbeats 4000000 in
set_option maxRecDepth 100000 in
theorem codeRuns_calls (haw : ∀ w, Calls Try.prog 13 #[] w fun e w' => e = .returned (.bool true) ∧ Below w.heap.size w w') (A : Option Addr) (c : Nat) (l : List S54) (key time v : Int) (w : World) (hr : Kd.C k54 w A l.length l) (hc : l.length ≤ c) :
    Calls Try.prog 4 #[.slice A l.length c, .int .i64 key, .int .i64 time, .int .i64 v] w fun e w' => e = .returned (.bool true) ∧ Below w.heap.size w w' := by
  have hfew := few_calls A c l w hc (fun h => by obtain ⟨ad, e, _⟩ := hr.2.2 (by omega); exact ⟨ad, e⟩)
  have hm := C_few hr
  have hcm : (l.take 300).length ≤ c := by rw [List.length_take]; omega
  revert hfew hm hcm
  generalize l.take 300 = m
  intro hfew hm hcm
  obtain ⟨k, hk⟩ := (may_ev m).rounds
  cases hO : hOk m with
  | true =>
    rw [hO] at hk
    obtain ⟨r, h1, h2⟩ := runs_same m hO key time v
    have hml : m.length ≤ 1024 := by
      unfold hOk at hO
      split at hO
      · cases hO
      · omega
    have d1 : (r == r) = true := beq_self_eq_true _
    go_enter Try.func4, Try.ntmps4
    go_wp2_with (first | (go_at_call 10; (with_reducible refine hfew.mono ?_); rintro e w0 ⟨rfl, rfl⟩) | (go_at_call 14; (with_reducible refine (run_calls A c m key time v _ hm hcm hml r hO (List.replicate 65 0) zero56 (by simp) h1).mono ?_); rintro e w1 ⟨rfl, hb1⟩; have hm1 := Kd.C_below hm hb1) | (go_at_call 15; (with_reducible refine (runR_calls A c m key time v _ hm1 hcm hml r k hk h2).mono ?_); rintro e w2 ⟨rfl, hb2⟩) | (go_at_call 13; (with_reducible refine (haw _).mono ?_); rintro e w3 ⟨rfl, hb3⟩))
    go_ret
    exact ⟨rfl, below_then (below_then hb1 hb1.size hb2) (Nat.le_trans hb1.size hb2.size) hb3⟩
  | false =>
    rw [hO] at hk
    go_enter Try.func4, Try.ntmps4
    go_wp2_with (first | (go_at_call 10; (with_reducible refine hfew.mono ?_); rintro e w0 ⟨rfl, rfl⟩) | (go_at_call 14; (with_reducible refine (run_bad A c m key time v _ hm hcm hO).mono ?_); rintro e w1 ⟨rfl, hb1⟩; have hm1 := Kd.C_below hm hb1) | (go_at_call 15; (with_reducible refine (runR_bad A c m key time v _ hm1 hcm k hk).mono ?_); rintro e w2 ⟨rfl, hb2⟩) | (go_at_call 13; (with_reducible refine (haw _).mono ?_); rintro e w3 ⟨rfl, hb3⟩))
    go_ret
    exact ⟨rfl, below_then (below_then hb1 hb1.size hb2) (Nat.le_trans hb1.size hb2.size) hb3⟩
theorem codeRuns_walk (A : Option Addr) (c : Nat) (l : List S54) (key time v : Int) (w : World) (hr : Kd.C k54 w A l.length l) (hc : l.length ≤ c) :
    Calls Try.prog 4 #[.slice A l.length c, .int .i64 key, .int .i64 time, .int .i64 v] w fun e w' => e = .returned (.bool true) ∧ Below w.heap.size w w' := codeRuns_calls awake_calls A c l key time v w hr hc
end Go.Proofs.Ytekbcfgcojecmaa.P
