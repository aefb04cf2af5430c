import Derived.Test.YtgipepjpkmlmaaaE6
import Derived.Test.YtgipepjpkmlmaaaF23
import Derived.Test.YtgipepjpkmlmaaaM1
import Derived.Lib.Strings
namespace Go.Proofs.Ytgipepjpkmlmaaa.P
set_option linter.unusedVariables false
set_option linter.unusedSimpArgs false
section
open Go.RowKit Go.Proofs.YtgipepjpkmlmaaaW.PrintWords Go.Proofs.YtgipepjpkmlmaaaW.PrintLast Go.Proofs.YtgipepjpkmlmaaaW.PrintMore

/-- A record with no long text. -/
def cutR (r : S50) : S50 := if 50 < r.f2.size then ⟨r.f0, r.f1, r.f2.extract 0 50⟩ else r
def someP (l : List S50) : List S50 := (l.take 150).map cutR
theorem take_C {w : World} {A : Option Addr} {l : List S50} (h : k50.C w A l.length l) (n : Nat) (hn : n ≤ l.length) : k50.C w A n (l.take n) := by
  refine ⟨by rw [List.length_take]; omega, by have := h.2.1; omega, fun h0 => ?_⟩
  obtain ⟨ad, hA, hh⟩ := h.2.2 (by omega)
  refine ⟨ad, hA, fun j p hj => hh j p ?_⟩
  rw [List.getElem?_take] at hj
  split at hj
  · exact hj
  · cases hj
set_option maxHeartbeats 8000000 in
set_option maxRecDepth 100000 in
theorem some_calls (A : Option Addr) (c : Nat) (l : List S50) (w : World) (hr : k50.C w A l.length l) (hc : l.length ≤ c) :
    Calls Try.prog 14 #[.slice A l.length c] w fun e w' => ∃ v, e = .returned v ∧ Kd.R k50 50 w' w.heap.size (fun _ => True) v (someP l) ∧ Below w.heap.size w w' := by
  have hmx : (l.length : Int) ≤ 9223372036854775807 := by
    have := hr.2.1
    omega
  obtain ⟨L, hL⟩ : ∃ L, l.take 150 = L := ⟨_, rfl⟩
  have hLl : L.length ≤ 150 := by rw [← hL, List.length_take]; omega
  have hLc : L.length ≤ c := by rw [← hL, List.length_take]; omega
  have hLC : k50.C w A L.length L := by
    rw [← hL, List.length_take]
    by_cases h : l.length ≤ 150
    · rw [Nat.min_eq_right h, List.take_of_length_le h]; exact hr
    · rw [Nat.min_eq_left (by omega)]; exact take_C hr 150 (by omega)
  obtain ⟨F, hF⟩ : ∃ F, someP l = F := ⟨_, rfl⟩
  rw [hF]
  have hF2 : L.map cutR = F := by rw [← hL]; exact hF
  have HF := Lib.hid hF2
  have HLC := Lib.hid hLC
  clear hF hF2 hLC hr
  go_enter Try.func14, Try.ntmps14
  go_upto_if 8 with fail
  go_cut [0] from 6 to 10 (fun v0 wc => v0 = .slice A L.length c ∧ wc = w)
  case first =>
    by_cases h : 150 < l.length
    · have d : decide ((150 : Int) < (l.length : Int)) = true := decide_eq_true (by omega)
      have e : L.length = 150 := by rw [← hL, List.length_take]; omega
      have hb : (0 : Int) ≤ 150 ∧ (150 : Int) ≤ (c : Int) := by omega
      have HE := Lib.hid e
      clear e hL
      go_wp2
      go_meet
      case rel => exact ⟨by rw [HE.out], rfl⟩
    · have d : decide ((150 : Int) < (l.length : Int)) = false := decide_eq_false (by omega)
      have e : L.length = l.length := by rw [← hL, List.length_take]; omega
      have HE := Lib.hid e
      clear e hL
      go_wp2
      go_meet
      case rel => exact ⟨by rw [HE.out], rfl⟩
  case rest =>
    obtain ⟨rfl, rfl⟩ := hcut
    clear hL hmx hc
    go_wp2
    go_loopg [3, 4] L.length (fun kq v3 v4 wr => ∃ (i : Nat) (all : List S50), v4 = .int .i64 (i : Int) ∧ i ≤ L.length ∧ L.length - i ≤ kq ∧ all ++ (L.drop i).map cutR = F ∧ all.length = i ∧ Kd.R k50 50 wr wc.heap.size (fun _ => True) v3 all ∧ Below wc.heap.size wc wr)
    case atStart => exact ⟨0, [], rfl, Nat.zero_le _, by omega, by simpa using HF.out, rfl, Kd.R_nil _ _ _ _ _, Below.refl _ _⟩
    case round =>
      obtain ⟨i, all, rfl, hil, hik, hmap, hal, hR9, hbw⟩ := hrel
      by_cases hlt : i < L.length
      rotate_left
      · have d1 : decide ((i : Int) < (L.length : Int)) = false := decide_eq_false (by omega)
        rw [List.drop_eq_nil_of_le (by omega)] at hmap
        have HO := Lib.hid hmap
        have HR := Lib.hid hR9
        clear hmap hR9
        go_wp2
        go_ret
        refine ⟨_, rfl, ?_, hbw⟩
        have h1 := HO.out
        have h2 := HR.out
        rw [List.map_nil, List.append_nil] at h1
        rw [← h1]
        exact h2
      have d1 : decide ((i : Int) < (L.length : Int)) = true := decide_eq_true (by omega)
      obtain ⟨ad, had, x0, x1, x2⟩ := at_T50 (Kd.C_below HLC.out hbw) (i : Int) (by omega) (by omega)
      cases had
      rw [Int.toNat_natCast] at x0 x1 x2
      have hrd : rd_T50 L (i : Int) = L[i] := by simp [rd_T50, List.getD, List.getElem?_eq_getElem hlt]
      rw [List.drop_eq_getElem_cons hlt, ← hrd, List.map_cons] at hmap
      obtain ⟨x, hx⟩ : ∃ x, rd_T50 L (i : Int) = x := ⟨_, rfl⟩
      rw [hx] at x0 x1 x2 hmap
      clear hx hrd
      cases gk with
      | zero => omega
      | succ gk =>
      obtain ⟨A9, c9, rfl, hc9, _⟩ := Kd.R_reads hR9
      have hwi : IntKind.i64.wrap ((i : Int) + 1) = (i : Int) + 1 := by rw [IntKind.wrap_i64]; omega
      by_cases hz : 50 < x.f2.size
      · have d2 : decide ((50 : Int) < (x.f2.size : Int)) = true := decide_eq_true (by omega)
        have hb5 : (0 : Int) ≤ 50 ∧ (50 : Int) ≤ (x.f2.size : Int) := by omega
        have hcx : cutR x = ⟨x.f0, x.f1, x.f2.extract 0 50⟩ := if_pos hz
        rw [hcx, show ∀ (a : S50) (b : List S50), all ++ a :: b = (all ++ [a]) ++ b from fun a b => by simp] at hmap
        clear hz hcx

        have hb1 : Below wr.heap.size wr ((wr.alloc (.cells #[.int .i64 x.f0, .int .i64 x.f1, .string (x.f2.extract 0 50)] 50)).alloc (.cells #[.int .i64 x.f0, .int .i64 x.f1, .string (x.f2.extract 0 50)] 50)) := ((Below.refl _ _).alloc (Nat.le_refl _) _).alloc (by simp) _
        have hC1 : k50.C ((wr.alloc (.cells #[.int .i64 x.f0, .int .i64 x.f1, .string (x.f2.extract 0 50)] 50)).alloc (.cells #[.int .i64 x.f0, .int .i64 x.f1, .string (x.f2.extract 0 50)] 50)) (some ⟨wr.heap.size + 1, 0, none⟩) 1 [(⟨x.f0, x.f1, (x.f2.extract 0 50)⟩ : S50)] := recs_C [(⟨x.f0, x.f1, (x.f2.extract 0 50)⟩ : S50)] (by simp) (by have h0 := heap_alloc_new (wr.alloc (.cells #[.int .i64 x.f0, .int .i64 x.f1, .string (x.f2.extract 0 50)] 50)) (.cells #[.int .i64 x.f0, .int .i64 x.f1, .string (x.f2.extract 0 50)] 50); simpa using h0)
        have hR1 := Kd.R_below hR9 hb1
        have hB1 : Below wc.heap.size wc ((wr.alloc (.cells #[.int .i64 x.f0, .int .i64 x.f1, .string (x.f2.extract 0 50)] 50)).alloc (.cells #[.int .i64 x.f0, .int .i64 x.f1, .string (x.f2.extract 0 50)] 50)) := hbw.trans (hb1.mono hbw.size)
        have HR1 := Lib.hid hR1
        have HB1 := Lib.hid hB1
        have HC1 := Lib.hid hC1
        have HO := Lib.hid hmap
        clear hb1 hC1 hR1 hB1 hbw hR9 hmap
        go_wp2_with (first | ((with_reducible refine gate_builtin (b := .append) (xs := #[.tmp 29, .tmp 31]) rfl ?_); (try (refine gate_guard (by rfl) ?_; dsimp only)); at_builtin; refine Kd.R_append_rows k50 (w0 := wc) wc.heap.size rfl (.tmp 29) (.tmp 31) 24 50 (.agg #[(.int .i64 0), (.int .i64 0), (.string ⟨#[]⟩)]) 32 rfl Try.underlying24 info50 rfl (by decide) (by omega) (.slice A9 all.length c9) all [(⟨x.f0, x.f1, (x.f2.extract 0 50)⟩ : S50)] _ _ _ (fun _ => True) (fun _ => False) rfl rfl HR1.out HC1.out (fun _ _ h => by obtain rfl := k50_open h; exact k50_mkM _ _ _ _) (fun _ h => h.elim) (fun _ _ => trivial) HB1.out HB1.out.size ?aL ?_; (case aL => omega); intro v8 w8 hR8 hb8 hg8 hat8))
        go_roundg gk
        case measure => omega
        case rel => exact ⟨i + 1, all ++ [(⟨x.f0, x.f1, (x.f2.extract 0 50)⟩ : S50)], by first | rfl | (congr 1), by omega, by omega, HO.out, by simp; omega, hR8, hb8⟩

      · have d2 : decide ((50 : Int) < (x.f2.size : Int)) = false := decide_eq_false (by omega)
        have hcx : cutR x = ⟨x.f0, x.f1, x.f2⟩ := if_neg hz
        rw [hcx, show ∀ (a : S50) (b : List S50), all ++ a :: b = (all ++ [a]) ++ b from fun a b => by simp] at hmap
        clear hz hcx

        have hb1 : Below wr.heap.size wr ((wr.alloc (.cells #[.int .i64 x.f0, .int .i64 x.f1, .string x.f2] 50)).alloc (.cells #[.int .i64 x.f0, .int .i64 x.f1, .string x.f2] 50)) := ((Below.refl _ _).alloc (Nat.le_refl _) _).alloc (by simp) _
        have hC1 : k50.C ((wr.alloc (.cells #[.int .i64 x.f0, .int .i64 x.f1, .string x.f2] 50)).alloc (.cells #[.int .i64 x.f0, .int .i64 x.f1, .string x.f2] 50)) (some ⟨wr.heap.size + 1, 0, none⟩) 1 [(⟨x.f0, x.f1, x.f2⟩ : S50)] := recs_C [(⟨x.f0, x.f1, x.f2⟩ : S50)] (by simp) (by have h0 := heap_alloc_new (wr.alloc (.cells #[.int .i64 x.f0, .int .i64 x.f1, .string x.f2] 50)) (.cells #[.int .i64 x.f0, .int .i64 x.f1, .string x.f2] 50); simpa using h0)
        have hR1 := Kd.R_below hR9 hb1
        have hB1 : Below wc.heap.size wc ((wr.alloc (.cells #[.int .i64 x.f0, .int .i64 x.f1, .string x.f2] 50)).alloc (.cells #[.int .i64 x.f0, .int .i64 x.f1, .string x.f2] 50)) := hbw.trans (hb1.mono hbw.size)
        have HR1 := Lib.hid hR1
        have HB1 := Lib.hid hB1
        have HC1 := Lib.hid hC1
        have HO := Lib.hid hmap
        clear hb1 hC1 hR1 hB1 hbw hR9 hmap
        go_wp2_with (first | ((with_reducible refine gate_builtin (b := .append) (xs := #[.tmp 29, .tmp 31]) rfl ?_); (try (refine gate_guard (by rfl) ?_; dsimp only)); at_builtin; refine Kd.R_append_rows k50 (w0 := wc) wc.heap.size rfl (.tmp 29) (.tmp 31) 24 50 (.agg #[(.int .i64 0), (.int .i64 0), (.string ⟨#[]⟩)]) 32 rfl Try.underlying24 info50 rfl (by decide) (by omega) (.slice A9 all.length c9) all [(⟨x.f0, x.f1, x.f2⟩ : S50)] _ _ _ (fun _ => True) (fun _ => False) rfl rfl HR1.out HC1.out (fun _ _ h => by obtain rfl := k50_open h; exact k50_mkM _ _ _ _) (fun _ h => h.elim) (fun _ _ => trivial) HB1.out HB1.out.size ?aL ?_; (case aL => omega); intro v8 w8 hR8 hb8 hg8 hat8))
        go_roundg gk
        case measure => omega
        case rel => exact ⟨i + 1, all ++ [(⟨x.f0, x.f1, x.f2⟩ : S50)], by first | rfl | (congr 1), by omega, by omega, HO.out, by simp; omega, hR8, hb8⟩

end
section
open Go.RowKit Go.Proofs.YtgipepjpkmlmaaaW.PrintWords Go.Proofs.YtgipepjpkmlmaaaW.PrintLast Go.Proofs.YtgipepjpkmlmaaaW.PrintMore

/-- The sevens of a number, the lowest first. -/
def encI : Nat → Int → List Int
  | 0, u => [u]
  | f + 1, u => if u > 127 then (u % 128 + 128) :: encI f (u / 128) else [u]
def decI : List Int → Int
  | [] => 0
  | b :: t => b % 128 + 128 * decI t
theorem decI_nonneg : ∀ l, 0 ≤ decI l
  | [] => Int.le_refl _
  | b :: t => by have := decI_nonneg t; unfold decI; omega
theorem dec_enc : ∀ f u, 0 ≤ u → u < 128 ^ (f + 1) → decI (encI f u) = u
  | 0, u, h0, h1 => by simp [encI, decI]; omega
  | f + 1, u, h0, h1 => by
    unfold encI
    split
    · have := dec_enc f (u / 128) (by omega) (by rw [Int.pow_succ] at h1; omega)
      unfold decI
      omega
    · simp [decI]
      omega
theorem enc_ne : ∀ f u, encI f u ≠ []
  | 0, u => by simp [encI]
  | f + 1, u => by unfold encI; split <;> simp
theorem enc_last : ∀ f u, 1 ≤ u → ∀ h, (encI f u).getLast h ≠ 0
  | 0, u, h1, h => by simp [encI]; omega
  | f + 1, u, h1, h => by
    by_cases c : u > 127
    · have e : encI (f + 1) u = (u % 128 + 128) :: encI f (u / 128) := by rw [encI, if_pos c]
      have h2 := enc_last f (u / 128) (by omega) (enc_ne _ _)
      simp only [e]
      rw [List.getLast_cons (enc_ne _ _)]
      exact h2
    · have e : encI (f + 1) u = [u] := by rw [encI, if_neg c]
      simp only [e, List.getLast_singleton]
      omega
theorem dec_snoc : ∀ (l : List Int) (b : Int), decI (l ++ [b]) = decI l + 128 ^ l.length * (b % 128)
  | [], b => by simp [decI]
  | a :: t, b => by
    have := dec_snoc t b
    simp only [List.cons_append, decI, this, List.length_cons, Int.pow_succ]
    rw [Int.mul_add, Int.add_assoc, ← Int.mul_assoc, Int.mul_comm 128 (128 ^ t.length)]
theorem dec_lt : ∀ l : List Int, decI l < 128 ^ l.length
  | [] => by simp [decI]
  | a :: t => by
    have := dec_lt t
    unfold decI
    rw [List.length_cons, Int.pow_succ]
    omega
theorem enc_dec : ∀ (l : List Int) (b : Int) (f : Nat), (∀ x ∈ l, 128 ≤ x ∧ x ≤ 255) → 0 ≤ b → b < 128 → (l ≠ [] → b ≠ 0) → l.length ≤ f → encI f (decI (l ++ [b])) = l ++ [b]
  | [], b, f, hw, h0, h1, hc, hf => by
    have e : decI ([] ++ [b]) = b := by simp [decI]; omega
    rw [e]
    cases f with
    | zero => rfl
    | succ f => rw [encI, if_neg (by omega)]; rfl
  | a :: t, b, f, hw, h0, h1, hc, hf => by
    obtain ⟨f, rfl⟩ : ∃ g, f = g + 1 := ⟨f - 1, by simp at hf; omega⟩
    have ha := hw a (by simp)
    have ih := enc_dec t b f (fun x hx => hw x (by simp [hx])) h0 h1 (fun _ => hc (by simp)) (by simp at hf; omega)
    have hpos : 1 ≤ decI (t ++ [b]) := by
      rw [dec_snoc]
      have := decI_nonneg t
      have hb : 1 ≤ b % 128 := by have := hc (by simp); omega
      have hp : (0 : Int) < 128 ^ t.length := Int.pow_pos (by omega)
      have : (128 : Int) ^ t.length * 1 ≤ 128 ^ t.length * (b % 128) := Int.mul_le_mul_of_nonneg_left hb (by omega)
      omega
    have e : decI (a :: t ++ [b]) = a % 128 + 128 * decI (t ++ [b]) := rfl
    rw [e, encI, if_pos (by omega), show (a % 128 + 128 * decI (t ++ [b])) % 128 + 128 = a by omega, show (a % 128 + 128 * decI (t ++ [b])) / 128 = decI (t ++ [b]) by omega, ih]
    rfl
theorem enc_iff (l : List Int) (b : Int) (hw : ∀ x ∈ l, 128 ≤ x ∧ x ≤ 255) (h0 : 0 ≤ b) (h1 : b < 128) (hl : l.length ≤ 9) :
    encI 9 (decI (l ++ [b]) % 18446744073709551616) = l ++ [b] ↔ ¬((l ≠ [] ∧ b = 0) ∨ (l.length = 9 ∧ 1 < b)) := by
  have hn := decI_nonneg (l ++ [b])
  have hD : decI (l ++ [b]) < 18446744073709551616 ↔ ¬(l.length = 9 ∧ 1 < b) := by
    have h3 := dec_snoc l b
    have h4 := dec_lt l
    have h5 := decI_nonneg l
    constructor
    · rintro h ⟨h6, h7⟩
      rw [h6] at h3 h4
      omega
    · intro h
      by_cases h6 : l.length = 9
      · rw [h6] at h3 h4
        omega
      · have h7 := dec_lt (l ++ [b])
        have h9 : ∀ n : Fin 10, (128 : Int) ^ n.val ≤ 128 ^ 9 := by decide
        have h8 : (128 : Int) ^ (l ++ [b]).length ≤ 128 ^ 9 := h9 ⟨(l ++ [b]).length, by simp; omega⟩
        omega
  constructor
  · intro h
    have h2 := dec_enc 9 (decI (l ++ [b]) % 18446744073709551616) (by omega) (by omega)
    rw [h] at h2
    rintro (⟨h3, h4⟩ | h3)
    · have hu : 1 ≤ decI (l ++ [b]) := by
        cases l with
        | nil => exact absurd rfl h3
        | cons a t =>
          by_cases hz : decI (a :: t ++ [b]) = 0
          · rw [hz] at h
            simp [encI] at h
          · omega
      have h5 := enc_last 9 (decI (l ++ [b]) % 18446744073709551616) (by omega) (enc_ne _ _)
      apply h5
      simp only [h]
      rw [List.getLast_append_of_ne_nil _ (by simp)]
      exact h4
    · exact (hD.1 (by omega)) h3
  · intro h
    rw [Int.emod_eq_of_lt hn (hD.2 (fun h2 => h (.inr h2)))]
    exact enc_dec l b 9 hw h0 h1 (fun h2 h3 => h (.inl ⟨h2, h3⟩)) hl

theorem enc_range : ∀ f u, 0 ≤ u → u < 128 ^ (f + 1) → ∀ x ∈ encI f u, 0 ≤ x ∧ x < 256
  | 0, u, h0, h1, x, hx => by simp [encI] at hx; subst hx; omega
  | f + 1, u, h0, h1, x, hx => by
    unfold encI at hx
    split at hx
    · rcases List.mem_cons.1 hx with rfl | hx
      · omega
      · exact enc_range f (u / 128) (by omega) (by rw [Int.pow_succ] at h1; omega) x hx
    · simp at hx
      subst hx
      omega
/-- The first bytes of a text. -/
def bts (s : ByteArray) (n : Nat) : List Int := (List.range n).map (fun j : Nat => bt s (j : Int))
theorem bytes_iff (s : ByteArray) (L : List Int) (hL : ∀ x ∈ L, 0 ≤ x ∧ x < 256) (n : Nat) (hn : n ≤ s.size) : ((strOfNums L).toList = (s.extract 0 n).toList) ↔ L = bts s n := by
  have h1 : ((strOfNums L).toList).map (fun b : UInt8 => (b.toNat : Int)) = L := by
    rw [Lib.toList_data]
    unfold strOfNums
    simp only [List.map_map]
    conv => rhs; rw [← List.map_id L]
    refine List.map_congr_left (fun x hx => ?_)
    have := hL x hx
    simp only [Function.comp, id, UInt8.toNat_ofNat']
    omega
  have h2 : ((s.extract 0 n).toList).map (fun b : UInt8 => (b.toNat : Int)) = bts s n := by
    rw [Lib.toList_data, Lib.extract_data, List.drop_zero, Nat.sub_zero]
    apply List.ext_getElem
    · simp [bts]
      have : s.data.size = s.size := rfl
      omega
    · intro j h3 h4
      have hj : j < n := by simpa [bts] using h4
      have hjs : j < s.size := by omega
      simp [bts, bt, hjs]
      rfl
  constructor
  · intro h
    rw [← h1, h, h2]
  · intro h
    have h3 : ((strOfNums L).toList).map (fun b : UInt8 => (b.toNat : Int)) = ((s.extract 0 n).toList).map (fun b : UInt8 => (b.toNat : Int)) := by rw [h1, h2, h]
    exact List.map_inj_right (fun a b hab => UInt8.toNat_inj.1 (by omega)) |>.1 h3
theorem put_l0 : ∀ (f : Nat) (u : Int) (acc : List Int) (k : Nat), 0 ≤ u → u < 128 ^ (f + 1) → u < 18446744073709551616 → f < k → acc.length + f ≤ 1000 → headgateref01_Put.l0 k u acc = some (strOfNums (acc ++ encI f u))
  | 0, u, acc, k, h0, h1, h2, hk, ha => by
    obtain ⟨k, rfl⟩ : ∃ j, k = j + 1 := ⟨k - 1, by omega⟩
    rw [headgateref01_Put.l0, if_neg (by omega), if_pos (by omega)]
    simp only [encI]
    rw [show u % 256 = u by omega]
  | f + 1, u, acc, k, h0, h1, h2, hk, ha => by
    obtain ⟨k, rfl⟩ : ∃ j, k = j + 1 := ⟨k - 1, by omega⟩
    rw [headgateref01_Put.l0]
    unfold encI
    have e1 : Int.tdiv u 128 = u / 128 := Int.tdiv_eq_ediv_of_nonneg h0
    have e2 : Int.tmod u 128 = u % 128 := Int.tmod_eq_emod_of_nonneg h0
    by_cases c : u > 127
    · rw [if_pos c, if_pos c, if_pos (by omega), e1, e2, IntKind.wrap_u64, IntKind.wrap_u64, show (u % 128 + 128) % 18446744073709551616 % 256 = u % 128 + 128 by omega, show u / 128 % 18446744073709551616 = u / 128 by omega,
        put_l0 f (u / 128) _ k (by omega) (by rw [Int.pow_succ] at h1; omega) (by omega) (by omega) (by simp; omega)]
      simp
    · rw [if_neg c, if_neg c, if_pos (by omega), show u % 256 = u by omega]
/-- The number that bits say. -/
def numU (u : Int) : Int := if Int.tmod u 2 = 1 then wrap64 ((wrap64 (-(wrap64 (IntKind.u64.wrap (Int.tdiv u 2))))) - 1) else wrap64 (IntKind.u64.wrap (Int.tdiv u 2))
theorem put_num (u : Int) (k : Nat) (h0 : 0 ≤ u) (h1 : u < 18446744073709551616) (hk : 11 ≤ k) : headgateref01_Put.f k (numU u) = some (strOfNums (encI 9 u)) := by
  have e1 : Int.tdiv u 2 = u / 2 := Int.tdiv_eq_ediv_of_nonneg h0
  have e2 : Int.tmod u 2 = u % 2 := Int.tmod_eq_emod_of_nonneg h0
  obtain ⟨k, rfl⟩ : ∃ j, k = j + 1 := ⟨k - 1, by omega⟩
  have hj : ∀ x : Int, x = u → headgateref01_Put.j0 (k + 1) x = some (strOfNums (encI 9 u)) := by
    rintro x rfl
    rw [headgateref01_Put.j0, put_l0 9 x [] k h0 (by omega) h1 (by omega) (by simp)]
    rfl
  unfold numU headgateref01_Put.f
  rw [e1, e2]
  simp only [IntKind.wrap_u64]
  by_cases c : u % 2 = 1
  · rw [if_pos c]
    have hn : wrap64 (wrap64 (-wrap64 (u / 2 % 18446744073709551616)) - 1) = -(u / 2) - 1 := by unfold wrap64; omega
    rw [hn, if_pos (by omega)]
    exact hj _ (by unfold wrap64; omega)
  · rw [if_neg c]
    have hn : wrap64 (u / 2 % 18446744073709551616) = u / 2 := by unfold wrap64; omega
    rw [hn, if_neg (by omega)]
    exact hj _ (by omega)
end
section
open Go.RowKit Go.Proofs.YtgipepjpkmlmaaaW.PrintWords Go.Proofs.YtgipepjpkmlmaaaW.PrintLast Go.Proofs.YtgipepjpkmlmaaaW.PrintMore

/-- The first byte below 128, of some. -/
def scanK (s : ByteArray) : Nat → Nat → Option Nat
  | 0, _ => none
  | f + 1, k => if k = s.size then none else if 128 ≤ bt s (k : Int) then scanK s f (k + 1) else some k
theorem scan_spec (s : ByteArray) : ∀ f k K, k ≤ s.size → scanK s f k = some K → k ≤ K ∧ K < k + f ∧ K < s.size ∧ bt s (K : Int) < 128 ∧ ∀ j, k ≤ j → j < K → 128 ≤ bt s (j : Int)
  | 0, k, K, hk, h => by simp [scanK] at h
  | f + 1, k, K, hk, h => by
    unfold scanK at h
    split at h
    · cases h
    · split at h
      · rename_i h1 h2
        obtain ⟨a, b, c, d, e⟩ := scan_spec s f (k + 1) K (by omega) h
        refine ⟨by omega, by omega, c, d, fun j h3 h4 => ?_⟩
        by_cases h5 : j = k
        · subst h5; exact h2
        · exact e j (by omega) h4
      · rename_i h1 h2
        cases h
        exact ⟨by omega, by omega, by omega, by omega, fun j h3 h4 => by omega⟩
def badK (s : ByteArray) (K : Nat) : Prop := (0 < K ∧ bt s (K : Int) = 0) ∨ (K = 9 ∧ 1 < bt s (K : Int))
theorem tk_none (s : ByteArray) : ∀ f k u, k + f = 10 → scanK s f k = none → (tkL s (f + 1) k u).2.2 = 2
  | 0, k, u, hk, h => by
    obtain rfl : k = 10 := by omega
    simp [tkL]
  | f + 1, k, u, hk, h => by
    unfold scanK at h
    rw [tkL]
    by_cases c : k = s.size
    · rw [if_pos (.inl c)]
    · rw [if_neg c] at h
      rw [if_neg (by omega)]
      by_cases d : 128 ≤ bt s (k : Int)
      · rw [if_pos d] at h ⊢
        exact tk_none s f (k + 1) _ (by omega) h
      · rw [if_neg d] at h
        cases h
theorem tk_some (s : ByteArray) : ∀ f k u K, k + f = 10 → scanK s f k = some K → (badK s K → (tkL s (f + 1) k u).2.2 = 2) ∧ (¬ badK s K → (tkL s (f + 1) k u).2.2 = 0 ∧ (tkL s (f + 1) k u).2.1 = s.extract (K + 1) s.size)
  | 0, k, u, K, hk, h => by simp [scanK] at h
  | f + 1, k, u, K, hk, h => by
    unfold scanK at h
    rw [tkL]
    by_cases c : k = s.size
    · rw [if_pos c] at h; cases h
    · rw [if_neg c] at h
      rw [if_neg (by omega)]
      by_cases d : 128 ≤ bt s (k : Int)
      · rw [if_pos d] at h ⊢
        exact tk_some s f (k + 1) _ K (by omega) h
      · rw [if_neg d] at h ⊢
        cases h
        constructor
        · intro hb; unfold badK at hb; rw [if_pos hb]
        · intro hb; unfold badK at hb; rw [if_neg hb]; exact ⟨rfl, rfl⟩
theorem rl_none (s : ByteArray) : ∀ f k M, k + f = 10 → k ≤ s.size → scanK s f k = none → headgateref01_Take.l0 (M + f + 3) s (k : Int) = some (0, ⟨#[]⟩, 2)
  | 0, k, M, hk, hs, h => by
    obtain rfl : k = 10 := by omega
    have hj : headgateref01_Take.j1 (M + 2) s ((10 : Nat) : Int) = some (0, ⟨#[]⟩, 2) := by
      rw [headgateref01_Take.j1]
      split
      · rw [headgateref01_Take.j2, if_pos rfl]
      · rw [headgateref01_Take.j2, if_pos (by rfl)]
    rw [show M + 0 + 3 = (M + 2) + 1 by omega, headgateref01_Take.l0]
    by_cases c : (((10 : Nat) : Int)) < (s.size : Int)
    · rw [if_pos c, if_neg (by omega), hj]
    · rw [if_neg c, hj]
  | f + 1, k, M, hk, hs, h => by
    unfold scanK at h
    by_cases c : k = s.size
    · rw [show M + (f + 1) + 3 = (M + f + 1 + 2) + 1 by omega, headgateref01_Take.l0, if_neg (by omega), headgateref01_Take.j1, if_pos (by omega), headgateref01_Take.j2, if_pos rfl]
    · rw [if_neg c] at h
      by_cases d : 128 ≤ bt s (k : Int)
      · rw [if_pos d] at h
        have hw : wrap64 ((k : Int) + 1) = ((k + 1 : Nat) : Int) := by unfold wrap64; omega
        rw [show M + (f + 1) + 3 = (M + f + 3) + 1 by omega, headgateref01_Take.l0, if_pos (by omega), if_pos (by omega), if_pos (by omega), if_pos (by omega), hw]
        exact rl_none s f (k + 1) M (by omega) (by omega) h
      · rw [if_neg d] at h
        cases h
theorem rl_some (s : ByteArray) : ∀ f k K M, k + f = 10 → k ≤ s.size → scanK s f k = some K → headgateref01_Take.l0 (M + (K - k) + 3) s (k : Int) = headgateref01_Take.l1 M s (K : Int) 0 (K : Int)
  | 0, k, K, M, hk, hs, h => by simp [scanK] at h
  | f + 1, k, K, M, hk, hs, h => by
    have hsp := scan_spec s (f + 1) k K hs h
    unfold scanK at h
    by_cases c : k = s.size
    · rw [if_pos c] at h; cases h
    · rw [if_neg c] at h
      by_cases d : 128 ≤ bt s (k : Int)
      · rw [if_pos d] at h
        have h2 := scan_spec s f (k + 1) K (by omega) h
        have hw : wrap64 ((k : Int) + 1) = ((k + 1 : Nat) : Int) := by unfold wrap64; omega
        rw [show M + (K - k) + 3 = (M + (K - (k + 1)) + 3) + 1 by omega, headgateref01_Take.l0, if_pos (by omega), if_pos (by omega), if_pos (by omega), if_pos (by omega), hw]
        exact rl_some s f (k + 1) K M (by omega) (by omega) h
      · rw [if_neg d] at h
        cases h
        rw [show M + (k - k) + 3 = (M + 1 + 1) + 1 by omega, headgateref01_Take.l0, if_pos (by omega), if_pos (by omega), if_pos (by omega), if_neg (by omega), headgateref01_Take.j1, if_neg (by omega), headgateref01_Take.j2, if_neg (by
          have : ((k : Int) == 10) = false := beq_eq_false_iff_ne.2 (by omega)
          rw [this]; decide)]
theorem bts_length (s : ByteArray) (n : Nat) : (bts s n).length = n := by simp [bts]
theorem bts_drop (s : ByteArray) (n j : Nat) (hj : j < n) : (bts s n).drop j = bt s (j : Int) :: (bts s n).drop (j + 1) := by
  rw [List.drop_eq_getElem_cons (by rw [bts_length]; exact hj)]
  simp [bts]
/-- What is answered of the bits. -/
def endT (s : ByteArray) (K : Nat) (U : Int) : Int × ByteArray × Int := if (strOfNums (encI 9 U)).toList = (s.extract 0 (K + 1)).toList then (numU U, s.extract (K + 1) s.size, 0) else (0, ⟨#[]⟩, 2)
theorem rl_end (s : ByteArray) (K M : Nat) (U : Int) (hK : K < s.size) (hK9 : K ≤ 9) (h0 : 0 ≤ U) (h1 : U < 18446744073709551616) (hM : 11 ≤ M) : headgateref01_Take.l1 (M + 1) s (K : Int) U (-1) = some (endT s K U) := by
  have hw : wrap64 ((K : Int) + 1) = ((K + 1 : Nat) : Int) := by unfold wrap64; omega
  have hp := put_num U M h0 h1 hM
  rw [headgateref01_Take.l1, if_neg (by omega), hw, Int.toNat_natCast]
  unfold numU at hp
  unfold endT numU
  by_cases c : Int.tmod U 2 = 1
  · rw [if_pos c] at hp
    rw [if_pos c, hp, Option.bind_some, if_pos (by omega), if_pos (by omega)]
    split <;> simp_all
  · rw [if_neg c] at hp
    rw [if_neg c, hp, Option.bind_some, if_pos (by omega), if_pos (by omega)]
    split <;> simp_all
theorem rl_l1 (s : ByteArray) (K : Nat) (hK : K < s.size) (hK9 : K ≤ 9) : ∀ (j : Nat) (M : Nat), j ≤ K + 1 → 11 ≤ M →
    headgateref01_Take.l1 (M + 1 + j) s (K : Int) (decI ((bts s (K + 1)).drop j) % 18446744073709551616) ((j : Int) - 1) = some (endT s K (decI (bts s (K + 1)) % 18446744073709551616))
  | 0, M, hj, hM => by
    rw [List.drop_zero]
    exact rl_end s K M _ hK hK9 (by omega) (by omega) hM
  | j + 1, M, hj, hM => by
    have ih := rl_l1 s K hK hK9 j M (by omega) hM
    have hb := bt_range s (j : Int)
    have e : (((j + 1 : Nat) : Int) - 1) = (j : Int) := by omega
    have hw : wrap64 ((j : Int) - 1) = (j : Int) - 1 := by unfold wrap64; omega
    rw [e, show M + 1 + (j + 1) = (M + 1 + j) + 1 by omega, headgateref01_Take.l1, if_pos (by omega), if_pos (by omega), if_pos (by omega), hw, IntKind.wrap_u64, IntKind.wrap_u64, IntKind.wrap_u64]
    have hd : decI ((bts s (K + 1)).drop j) = bt s (j : Int) % 128 + 128 * decI ((bts s (K + 1)).drop (j + 1)) := by rw [bts_drop s (K + 1) j (by omega)]; rfl
    have hm : Int.tmod (bt s (j : Int) % 18446744073709551616) 128 = bt s (j : Int) % 128 := by rw [Int.tmod_eq_emod_of_nonneg (by omega)]; omega
    rw [hm, show (decI ((bts s (K + 1)).drop (j + 1)) % 18446744073709551616 * 128 % 18446744073709551616 + bt s (j : Int) % 128) % 18446744073709551616 = decI ((bts s (K + 1)).drop j) % 18446744073709551616 by rw [hd]; omega]
    exact ih
theorem end_iff (s : ByteArray) (K : Nat) (hs : scanK s 10 0 = some K) : ((strOfNums (encI 9 (decI (bts s (K + 1)) % 18446744073709551616))).toList = (s.extract 0 (K + 1)).toList) ↔ ¬ badK s K := by
  obtain ⟨_, h2, h3, h4, h5⟩ := scan_spec s 10 0 K (by omega) hs
  rw [bytes_iff s _ (enc_range 9 _ (by omega) (by omega)) (K + 1) (by omega)]
  have hsn : bts s (K + 1) = bts s K ++ [bt s (K : Int)] := by simp [bts, List.range_succ]
  have hl : (bts s K).length = K := bts_length s K
  have hb := bt_range s (K : Int)
  have := enc_iff (bts s K) (bt s (K : Int)) (fun x hx => by
    simp only [bts, List.mem_map, List.mem_range] at hx
    obtain ⟨j, hj, rfl⟩ := hx
    exact ⟨h5 j (by omega) hj, (bt_range s (j : Int)).2⟩) hb.1 h4 (by omega)
  rw [hsn, this, hl]
  unfold badK
  constructor
  · intro h c
    refine h ?_
    rcases c with ⟨a, b⟩ | c
    · exact .inl ⟨fun e => by rw [e] at hl; simp at hl; omega, b⟩
    · exact .inr c
  · intro h c
    refine h ?_
    rcases c with ⟨a, b⟩ | c
    · refine .inl ⟨?_, b⟩
      cases K with
      | zero => exact absurd (List.eq_nil_of_length_eq_zero hl) a
      | succ n => omega
    · exact .inr c
/-- Of a text both say alike whether it is a number. -/
theorem value_ref (a b : Int) (s : ByteArray) : ∃ k r, headgateref16_Value.f k a b s = some (r, (valP s).2) := by
  cases hs : scanK s 10 0 with
  | none =>
    have h1 := rl_none s 10 0 0 (by omega) (by omega) hs
    have h2 := tk_none s 10 0 0 (by omega) hs
    refine ⟨0 + 10 + 3, 0, ?_⟩
    unfold headgateref16_Value.f headgateref01_Take.f
    rw [show (0 : Int) = ((0 : Nat) : Int) from rfl, h1]
    simp [valP, h2]
  | some K =>
    obtain ⟨_, h2, h3, h4, h5⟩ := scan_spec s 10 0 K (by omega) hs
    have h1 := rl_some s 10 0 K (11 + 1 + (K + 1)) (by omega) (by omega) hs
    have h6 := rl_l1 s K h3 (by omega) (K + 1) 11 (by omega) (by omega)
    rw [List.drop_of_length_le (by rw [bts_length]; omega), show decI [] % 18446744073709551616 = 0 by rfl, show (((K + 1 : Nat) : Int) - 1) = (K : Int) by omega] at h6
    rw [h6] at h1
    have h7 := tk_some s 10 0 0 K (by omega) hs
    have h8 := end_iff s K hs
    refine ⟨11 + 1 + (K + 1) + (K - 0) + 3, (endT s K (decI (bts s (K + 1)) % 18446744073709551616)).1, ?_⟩
    unfold headgateref16_Value.f headgateref01_Take.f
    rw [show (0 : Int) = ((0 : Nat) : Int) from rfl, h1, Option.bind_some]
    by_cases c : badK s K
    · have e := h7.1 c
      have e2 : endT s K (decI (bts s (K + 1)) % 18446744073709551616) = (0, ⟨#[]⟩, 2) := by unfold endT; rw [if_neg (fun h => (h8.1 h) c)]
      rw [e2]
      simp [valP, e]
    · obtain ⟨e, e3⟩ := h7.2 c
      have e2 : endT s K (decI (bts s (K + 1)) % 18446744073709551616) = (numU (decI (bts s (K + 1)) % 18446744073709551616), s.extract (K + 1) s.size, 0) := by unfold endT; rw [if_pos (h8.2 c)]
      rw [e2]
      simp only [if_true]
      unfold valP
      rw [e, e3]
      congr 2
      cases h9 : (s.extract (K + 1) s.size).toList <;> simp [h9]
end
section
open Go.RowKit Go.Proofs.YtgipepjpkmlmaaaW.PrintWords Go.Proofs.YtgipepjpkmlmaaaW.PrintLast Go.Proofs.YtgipepjpkmlmaaaW.PrintMore

theorem cutR_size (r : S50) : (cutR r).f2.size ≤ 50 := by
  unfold cutR
  split
  · simp
    omega
  · omega
theorem someP_size (l : List S50) : ∀ r ∈ someP l, r.f2.size ≤ 50 := by
  intro r hr
  unfold someP at hr
  obtain ⟨x, _, rfl⟩ := List.mem_map.1 hr
  exact cutR_size x
theorem someP_length (l : List S50) : (someP l).length ≤ 150 := by
  unfold someP
  simp
  omega
/-- The latest time, and how many are bad. -/
def mkL : List S50 → Int → Int → Int × Int
  | [], m, b => (m, b)
  | r :: rs, m, b => if (valP r.f2).2 = true then mkL rs (mx m r.f1) b else mkL rs m (wrap64 (b + 1))
theorem run_marks (g : S23) : ∀ (l : List S50) (s : S28) (all : List S46), (runL g l s all).2.2 = 0 → 0 ≤ s.f1 → 0 ≤ s.f2 → 0 ≤ s.f3 → s.f1 + l.length ≤ 1000000 → s.f2 + l.length ≤ 1000000 → s.f3 + l.length ≤ 1000000 →
    (runL g l s all).1.f0 = (mkL l s.f0 s.f2).1 ∧ (runL g l s all).1.f2 = (mkL l s.f0 s.f2).2 ∧ (runL g l s all).1.f3 = s.f3 + l.length ∧ s.f1 ≤ (runL g l s all).1.f1 ∧ (runL g l s all).1.f1 ≤ s.f1 + l.length - ((mkL l s.f0 s.f2).2 - s.f2) ∧ s.f2 ≤ (mkL l s.f0 s.f2).2 := by
  intro l
  induction l with
  | nil =>
    intro s all _ h1 h2 h3 _ _ _
    simp [runL, mkL]
  | cons r rs ih =>
    intro s all he h1 h2 h3 h4 h5 h6
    rw [List.length_cons] at h4 h5 h6
    have hw : ∀ x : Int, 0 ≤ x → x ≤ 1000000 → wrap64 (x + 1) = x + 1 := fun x a b => by unfold wrap64; omega
    rw [runL] at he ⊢
    by_cases h0 : (feedP g s r).2.2 = 0
    rotate_left
    · rw [if_neg h0] at he
      exact absurd he h0
    rw [if_pos h0] at he ⊢
    have ih2 := ih (feedP g s r).1 (all ++ (feedP g s r).2.1) he
    have key : ((valP r.f2).2 = true ∧ (feedP g s r).1.f0 = mx s.f0 r.f1 ∧ (feedP g s r).1.f2 = s.f2 ∧ (feedP g s r).1.f3 = s.f3 + 1 ∧ s.f1 ≤ (feedP g s r).1.f1 ∧ (feedP g s r).1.f1 ≤ s.f1 + 1) ∨ ((valP r.f2).2 ≠ true ∧ (feedP g s r).1.f0 = s.f0 ∧ (feedP g s r).1.f2 = s.f2 + 1 ∧ (feedP g s r).1.f3 = s.f3 + 1 ∧ (feedP g s r).1.f1 = s.f1) := by
      unfold feedP at h0 ⊢
      split at h0
      · rename_i c1
        rw [if_pos c1]
        split at h0
        · cases h0
        · rename_i c2
          rw [if_neg c2]
          by_cases c3 : (valP r.f2).2 = true
          · rw [if_pos c3]
            refine .inl ⟨c3, rfl, rfl, hw _ h3 (by omega), ?_⟩
            simp only []
            split
            · rw [hw _ h1 (by omega)]; omega
            · omega
          · rw [if_neg c3]
            exact .inr ⟨c3, rfl, hw _ h2 (by omega), hw _ h3 (by omega), rfl⟩
      · cases h0
    rcases key with ⟨c, k0, k2, k3, k4, k5⟩ | ⟨c, k0, k2, k3, k4⟩
    · have := ih2 (by omega) (by omega) (by omega) (by omega) (by omega) (by omega)
      rw [k0, k2] at this
      rw [mkL, if_pos c]
      obtain ⟨a1, a2, a3, a4, a5, a6⟩ := this
      refine ⟨a1, a2, ?_, ?_, ?_, a6⟩
      · rw [a3, k3, List.length_cons]; omega
      · omega
      · rw [List.length_cons]; omega
    · have := ih2 (by omega) (by omega) (by omega) (by omega) (by omega) (by omega)
      rw [k0, k2] at this
      rw [mkL, if_neg c, hw _ h2 (by omega)]
      obtain ⟨a1, a2, a3, a4, a5, a6⟩ := this
      refine ⟨a1, a2, ?_, ?_, ?_, by omega⟩
      · rw [a3, k3, List.length_cons]; omega
      · omega
      · rw [List.length_cons]; omega
theorem run_err (g : S23) : ∀ (l : List S50) (s : S28) (all : List S46), (runL g l s all).2.2 ≠ 0 → (runL g l s all).1 = z28 := by
  intro l
  induction l with
  | nil => intro s all h; exact absurd rfl h
  | cons r rs ih =>
    intro s all h
    rw [runL] at h ⊢
    by_cases h0 : (feedP g s r).2.2 = 0
    · rw [if_pos h0] at h ⊢; exact ih _ _ h
    · rw [if_neg h0]
theorem marks_law (g : S23) (l : List S50) (hl : l.length ≤ 1000) (he : (runP g awZ l).2.2 = 0) :
    (runP g awZ l).1.f0 = (mkL l (-1) 0).1 ∧ (runP g awZ l).1.f2 = (mkL l (-1) 0).2 ∧ (runP g awZ l).1.f3 = l.length ∧ 0 ≤ (runP g awZ l).1.f1 ∧ (runP g awZ l).1.f1 ≤ l.length - (mkL l (-1) 0).2 ∧ 0 ≤ (mkL l (-1) 0).2 := by
  unfold runP at he ⊢
  split at he
  · rename_i c
    rw [if_pos c]
    have := run_marks g l awZ [] he (by decide) (by decide) (by decide) (by simp [awZ]; omega) (by simp [awZ]; omega) (by simp [awZ]; omega)
    simp only [awZ] at this ⊢
    omega
  · cases he
theorem run_err_p (g : S23) (l : List S50) (s : S28) (he : (runP g s l).2.2 ≠ 0) : (runP g s l).1.f3 = 0 := by
  unfold runP at he ⊢
  split at he
  · rename_i c
    rw [if_pos c, run_err g l s [] he]
    rfl
  · rename_i c
    rw [if_neg c]
    rfl
end
end Go.Proofs.Ytgipepjpkmlmaaa.P
