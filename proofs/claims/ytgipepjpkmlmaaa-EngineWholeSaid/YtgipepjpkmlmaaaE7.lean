import Derived.Test.YtgipepjpkmlmaaaE6
namespace Go.Proofs.Ytgipepjpkmlmaaa.P
open Go.RowKit Go.Proofs.YtgipepjpkmlmaaaW.PrintWords Go.Proofs.YtgipepjpkmlmaaaW.PrintLast Go.Proofs.YtgipepjpkmlmaaaW.PrintMore
set_option linter.unusedVariables false
set_option linter.unusedSimpArgs false

/-- A record with no long text. -/
def cutR (r : S50) : S50 := if 50 < r.f2.size then ⟨r.f0, r.f1, r.f2.extract 0 50⟩ else r
def someP (l : List S50) : List S50 := (l.take 150).map cutR
theorem take_C {w : World} {A : Option Addr} {l : List S50} (h : k50.C w A l.length l) (n : Nat) (hn : n ≤ l.length) : k50.C w A n (l.take n) := by
  refine ⟨by rw [List.length_take]; omega, by have := h.2.1; omega, fun h0 => ?_⟩
  obtain ⟨ad, hA, hh⟩ := h.2.2 (by omega)
  refine ⟨ad, hA, fun j p hj => hh j p ?_⟩
  rw [List.getElem?_take] at hj
  split at hj
  · exact hj
  · cases hj
set_option maxHeartbeats 8000000 in
set_option maxRecDepth 100000 in
theorem some_calls (A : Option Addr) (c : Nat) (l : List S50) (w : World) (hr : k50.C w A l.length l) (hc : l.length ≤ c) :
    Calls Try.prog 14 #[.slice A l.length c] w fun e w' => ∃ v, e = .returned v ∧ Kd.R k50 50 w' w.heap.size (fun _ => True) v (someP l) ∧ Below w.heap.size w w' := by
  have hmx : (l.length : Int) ≤ 9223372036854775807 := by
    have := hr.2.1
    omega
  obtain ⟨L, hL⟩ : ∃ L, l.take 150 = L := ⟨_, rfl⟩
  have hLl : L.length ≤ 150 := by rw [← hL, List.length_take]; omega
  have hLc : L.length ≤ c := by rw [← hL, List.length_take]; omega
  have hLC : k50.C w A L.length L := by
    rw [← hL, List.length_take]
    by_cases h : l.length ≤ 150
    · rw [Nat.min_eq_right h, List.take_of_length_le h]; exact hr
    · rw [Nat.min_eq_left (by omega)]; exact take_C hr 150 (by omega)
  obtain ⟨F, hF⟩ : ∃ F, someP l = F := ⟨_, rfl⟩
  rw [hF]
  have hF2 : L.map cutR = F := by rw [← hL]; exact hF
  have HF := Lib.hid hF2
  have HLC := Lib.hid hLC
  clear hF hF2 hLC hr
  go_enter Try.func14, Try.ntmps14
  go_upto_if 8 with fail
  go_cut [0] from 6 to 10 (fun v0 wc => v0 = .slice A L.length c ∧ wc = w)
  case first =>
    by_cases h : 150 < l.length
    · have d : decide ((150 : Int) < (l.length : Int)) = true := decide_eq_true (by omega)
      have e : L.length = 150 := by rw [← hL, List.length_take]; omega
      have hb : (0 : Int) ≤ 150 ∧ (150 : Int) ≤ (c : Int) := by omega
      have HE := Lib.hid e
      clear e hL
      go_wp2
      go_meet
      case rel => exact ⟨by rw [HE.out], rfl⟩
    · have d : decide ((150 : Int) < (l.length : Int)) = false := decide_eq_false (by omega)
      have e : L.length = l.length := by rw [← hL, List.length_take]; omega
      have HE := Lib.hid e
      clear e hL
      go_wp2
      go_meet
      case rel => exact ⟨by rw [HE.out], rfl⟩
  case rest =>
    obtain ⟨rfl, rfl⟩ := hcut
    clear hL hmx hc
    go_wp2
    go_loopg [3, 4] L.length (fun kq v3 v4 wr => ∃ (i : Nat) (all : List S50), v4 = .int .i64 (i : Int) ∧ i ≤ L.length ∧ L.length - i ≤ kq ∧ all ++ (L.drop i).map cutR = F ∧ all.length = i ∧ Kd.R k50 50 wr wc.heap.size (fun _ => True) v3 all ∧ Below wc.heap.size wc wr)
    case atStart => exact ⟨0, [], rfl, Nat.zero_le _, by omega, by simpa using HF.out, rfl, Kd.R_nil _ _ _ _ _, Below.refl _ _⟩
    case round =>
      obtain ⟨i, all, rfl, hil, hik, hmap, hal, hR9, hbw⟩ := hrel
      by_cases hlt : i < L.length
      rotate_left
      · have d1 : decide ((i : Int) < (L.length : Int)) = false := decide_eq_false (by omega)
        rw [List.drop_eq_nil_of_le (by omega)] at hmap
        have HO := Lib.hid hmap
        have HR := Lib.hid hR9
        clear hmap hR9
        go_wp2
        go_ret
        refine ⟨_, rfl, ?_, hbw⟩
        have h1 := HO.out
        have h2 := HR.out
        rw [List.map_nil, List.append_nil] at h1
        rw [← h1]
        exact h2
      have d1 : decide ((i : Int) < (L.length : Int)) = true := decide_eq_true (by omega)
      obtain ⟨ad, had, x0, x1, x2⟩ := at_T50 (Kd.C_below HLC.out hbw) (i : Int) (by omega) (by omega)
      cases had
      rw [Int.toNat_natCast] at x0 x1 x2
      have hrd : rd_T50 L (i : Int) = L[i] := by simp [rd_T50, List.getD, List.getElem?_eq_getElem hlt]
      rw [List.drop_eq_getElem_cons hlt, ← hrd, List.map_cons] at hmap
      obtain ⟨x, hx⟩ : ∃ x, rd_T50 L (i : Int) = x := ⟨_, rfl⟩
      rw [hx] at x0 x1 x2 hmap
      clear hx hrd
      cases gk with
      | zero => omega
      | succ gk =>
      obtain ⟨A9, c9, rfl, hc9, _⟩ := Kd.R_reads hR9
      have hwi : IntKind.i64.wrap ((i : Int) + 1) = (i : Int) + 1 := by rw [IntKind.wrap_i64]; omega
      by_cases hz : 50 < x.f2.size
      · have d2 : decide ((50 : Int) < (x.f2.size : Int)) = true := decide_eq_true (by omega)
        have hb5 : (0 : Int) ≤ 50 ∧ (50 : Int) ≤ (x.f2.size : Int) := by omega
        have hcx : cutR x = ⟨x.f0, x.f1, x.f2.extract 0 50⟩ := if_pos hz
        rw [hcx, show ∀ (a : S50) (b : List S50), all ++ a :: b = (all ++ [a]) ++ b from fun a b => by simp] at hmap
        clear hz hcx

        have hb1 : Below wr.heap.size wr ((wr.alloc (.cells #[.int .i64 x.f0, .int .i64 x.f1, .string (x.f2.extract 0 50)] 50)).alloc (.cells #[.int .i64 x.f0, .int .i64 x.f1, .string (x.f2.extract 0 50)] 50)) := ((Below.refl _ _).alloc (Nat.le_refl _) _).alloc (by simp) _
        have hC1 : k50.C ((wr.alloc (.cells #[.int .i64 x.f0, .int .i64 x.f1, .string (x.f2.extract 0 50)] 50)).alloc (.cells #[.int .i64 x.f0, .int .i64 x.f1, .string (x.f2.extract 0 50)] 50)) (some ⟨wr.heap.size + 1, 0, none⟩) 1 [(⟨x.f0, x.f1, (x.f2.extract 0 50)⟩ : S50)] := recs_C [(⟨x.f0, x.f1, (x.f2.extract 0 50)⟩ : S50)] (by simp) (by have h0 := heap_alloc_new (wr.alloc (.cells #[.int .i64 x.f0, .int .i64 x.f1, .string (x.f2.extract 0 50)] 50)) (.cells #[.int .i64 x.f0, .int .i64 x.f1, .string (x.f2.extract 0 50)] 50); simpa using h0)
        have hR1 := Kd.R_below hR9 hb1
        have hB1 : Below wc.heap.size wc ((wr.alloc (.cells #[.int .i64 x.f0, .int .i64 x.f1, .string (x.f2.extract 0 50)] 50)).alloc (.cells #[.int .i64 x.f0, .int .i64 x.f1, .string (x.f2.extract 0 50)] 50)) := hbw.trans (hb1.mono hbw.size)
        have HR1 := Lib.hid hR1
        have HB1 := Lib.hid hB1
        have HC1 := Lib.hid hC1
        have HO := Lib.hid hmap
        clear hb1 hC1 hR1 hB1 hbw hR9 hmap
        go_wp2_with (first | ((with_reducible refine gate_builtin (b := .append) (xs := #[.tmp 29, .tmp 31]) rfl ?_); (try (refine gate_guard (by rfl) ?_; dsimp only)); at_builtin; refine Kd.R_append_rows k50 (w0 := wc) wc.heap.size rfl (.tmp 29) (.tmp 31) 24 50 (.agg #[(.int .i64 0), (.int .i64 0), (.string ⟨#[]⟩)]) 32 rfl Try.underlying24 info50 rfl (by decide) (by omega) (.slice A9 all.length c9) all [(⟨x.f0, x.f1, (x.f2.extract 0 50)⟩ : S50)] _ _ _ (fun _ => True) (fun _ => False) rfl rfl HR1.out HC1.out (fun _ _ h => by obtain rfl := k50_open h; exact k50_mkM _ _ _ _) (fun _ h => h.elim) (fun _ _ => trivial) HB1.out HB1.out.size ?aL ?_; (case aL => omega); intro v8 w8 hR8 hb8 hg8 hat8))
        go_roundg gk
        case measure => omega
        case rel => exact ⟨i + 1, all ++ [(⟨x.f0, x.f1, (x.f2.extract 0 50)⟩ : S50)], by first | rfl | (congr 1), by omega, by omega, HO.out, by simp; omega, hR8, hb8⟩

      · have d2 : decide ((50 : Int) < (x.f2.size : Int)) = false := decide_eq_false (by omega)
        have hcx : cutR x = ⟨x.f0, x.f1, x.f2⟩ := if_neg hz
        rw [hcx, show ∀ (a : S50) (b : List S50), all ++ a :: b = (all ++ [a]) ++ b from fun a b => by simp] at hmap
        clear hz hcx

        have hb1 : Below wr.heap.size wr ((wr.alloc (.cells #[.int .i64 x.f0, .int .i64 x.f1, .string x.f2] 50)).alloc (.cells #[.int .i64 x.f0, .int .i64 x.f1, .string x.f2] 50)) := ((Below.refl _ _).alloc (Nat.le_refl _) _).alloc (by simp) _
        have hC1 : k50.C ((wr.alloc (.cells #[.int .i64 x.f0, .int .i64 x.f1, .string x.f2] 50)).alloc (.cells #[.int .i64 x.f0, .int .i64 x.f1, .string x.f2] 50)) (some ⟨wr.heap.size + 1, 0, none⟩) 1 [(⟨x.f0, x.f1, x.f2⟩ : S50)] := recs_C [(⟨x.f0, x.f1, x.f2⟩ : S50)] (by simp) (by have h0 := heap_alloc_new (wr.alloc (.cells #[.int .i64 x.f0, .int .i64 x.f1, .string x.f2] 50)) (.cells #[.int .i64 x.f0, .int .i64 x.f1, .string x.f2] 50); simpa using h0)
        have hR1 := Kd.R_below hR9 hb1
        have hB1 : Below wc.heap.size wc ((wr.alloc (.cells #[.int .i64 x.f0, .int .i64 x.f1, .string x.f2] 50)).alloc (.cells #[.int .i64 x.f0, .int .i64 x.f1, .string x.f2] 50)) := hbw.trans (hb1.mono hbw.size)
        have HR1 := Lib.hid hR1
        have HB1 := Lib.hid hB1
        have HC1 := Lib.hid hC1
        have HO := Lib.hid hmap
        clear hb1 hC1 hR1 hB1 hbw hR9 hmap
        go_wp2_with (first | ((with_reducible refine gate_builtin (b := .append) (xs := #[.tmp 29, .tmp 31]) rfl ?_); (try (refine gate_guard (by rfl) ?_; dsimp only)); at_builtin; refine Kd.R_append_rows k50 (w0 := wc) wc.heap.size rfl (.tmp 29) (.tmp 31) 24 50 (.agg #[(.int .i64 0), (.int .i64 0), (.string ⟨#[]⟩)]) 32 rfl Try.underlying24 info50 rfl (by decide) (by omega) (.slice A9 all.length c9) all [(⟨x.f0, x.f1, x.f2⟩ : S50)] _ _ _ (fun _ => True) (fun _ => False) rfl rfl HR1.out HC1.out (fun _ _ h => by obtain rfl := k50_open h; exact k50_mkM _ _ _ _) (fun _ h => h.elim) (fun _ _ => trivial) HB1.out HB1.out.size ?aL ?_; (case aL => omega); intro v8 w8 hR8 hb8 hg8 hat8))
        go_roundg gk
        case measure => omega
        case rel => exact ⟨i + 1, all ++ [(⟨x.f0, x.f1, x.f2⟩ : S50)], by first | rfl | (congr 1), by omega, by omega, HO.out, by simp; omega, hR8, hb8⟩

end Go.Proofs.Ytgipepjpkmlmaaa.P
