/- The program's lex.Cut tells what cutB tells, for every text of at most 4096 bytes; a longer one is told so. No condition. -/
import Derived.Test.YtdbccnhdblljbaaDoorLexSpec
namespace Go.Proofs.YtdbccnhdblljbaaDoor.P
open Go.RowKit Go.Proofs.YtdbccnhdblljbaaDoorW.PrintWords Go.Proofs.YtdbccnhdblljbaaDoorW.PrintLast Go.Proofs.YtdbccnhdblljbaaDoorW.PrintMore
set_option linter.unusedVariables false
set_option linter.unusedSimpArgs false

theorem wrap_id {x : Int} (h0 : -9223372036854775808 ≤ x) (h1 : x ≤ 9223372036854775807) : wrap64 x = x := by unfold wrap64; omega
theorem span_gen (q : Int → Bool) (p : UInt8 → Bool) (hq : ∀ c : UInt8, q (c.toNat : Int) = p c) (go : ByteArray → Nat → Int → Int) (h0 : ∀ s i, go s 0 i = i) (h1 : ∀ s k i, go s (k + 1) i = if q (bt s i) = true then go s k (i + 1) else i) (s : ByteArray) :
    ∀ (k i : Nat), i + k = s.size → go s k (i : Int) = (i : Int) + ((((bl s).drop i).takeWhile p).length : Nat) := by
  intro k
  induction k with
  | zero =>
    intro i hi
    rw [h0, List.drop_eq_nil_of_le (by rw [bl_length]; omega)]
    simp
  | succ k ih =>
    intro i hi
    have hl : i < (bl s).length := by rw [bl_length]; omega
    have e := List.drop_eq_getElem_cons hl
    obtain ⟨hb, _, _⟩ := bt_cons e
    generalize (bl s)[i] = c at *
    rw [h1, hb, hq, e, List.takeWhile_cons]
    by_cases hp : p c = true
    · simp only [hp, if_true]
      have := ih (i + 1) (by omega)
      rw [show ((i : Int) + 1) = ((i + 1 : Nat) : Int) by omega, this]
      simp; omega
    · simp only [hp]
      simp
theorem span1_f (s : ByteArray) (hs : s.size ≤ 140737488351232) : lex_span1.f s = some ((((bl s).takeWhile isSpace).length : Nat) : Int) := by
  unfold lex_span1.f
  rw [if_pos hs]
  have := span_gen lexSpace isSpace space_eq lex_span1.go (fun _ _ => rfl) (fun _ _ _ => rfl) s s.size 0 (by omega)
  simpa using this
theorem span2_f (s : ByteArray) (hs : s.size ≤ 140737488351232) : lex_span2.f s = some ((((bl s).takeWhile isOther).length : Nat) : Int) := by
  unfold lex_span2.f
  rw [if_pos hs]
  have := span_gen lexOther isOther other_eq lex_span2.go (fun _ _ => rfl) (fun _ _ _ => rfl) s s.size 0 (by omega)
  simpa using this
theorem span3_f (s : ByteArray) (hs : s.size ≤ 140737488351232) : lex_span3.f s = some ((((bl s).takeWhile isDigit).length : Nat) : Int) := by
  unfold lex_span3.f
  rw [if_pos hs]
  have := span_gen lexDigit isDigit digit_eq lex_span3.go (fun _ _ => rfl) (fun _ _ _ => rfl) s s.size 0 (by omega)
  simpa using this
theorem span4_f (s : ByteArray) (hs : s.size ≤ 140737488351232) : lex_span4.f s = some ((((bl s).takeWhile isPart).length : Nat) : Int) := by
  unfold lex_span4.f
  rw [if_pos hs]
  have := span_gen lexPart isPart part_eq lex_span4.go (fun _ _ => rfl) (fun _ _ _ => rfl) s s.size 0 (by omega)
  simpa using this
/-! ### numbers -/
theorem isDigit_val {c : UInt8} (h : isDigit c = true) : 48 ≤ c.toNat ∧ c.toNat ≤ 57 := by
  unfold isDigit at h
  simp only [Bool.and_eq_true, decide_eq_true_eq, UInt8.le_iff_toNat_le] at h
  simpa using h
theorem number_go (s : ByteArray) (hd : ∀ c ∈ bl s, isDigit c = true) : ∀ (k i n : Nat), i + k = s.size → n ≤ 9223372036854775807 →
    lex_number.go s k (i : Int) (n : Int) = (numB ((bl s).drop i) n).map (fun m => (m : Int)) := by
  intro k
  induction k with
  | zero =>
    intro i n hi hn
    rw [List.drop_eq_nil_of_le (by rw [bl_length]; omega)]
    rfl
  | succ k ih =>
    intro i n hi hn
    have hl : i < (bl s).length := by rw [bl_length]; omega
    have e := List.drop_eq_getElem_cons hl
    obtain ⟨hb, _, _⟩ := bt_cons e
    have hv := isDigit_val (hd _ (List.getElem_mem hl))
    generalize (bl s)[i] = c at *
    rw [e]
    simp only [lex_number.go, numB]
    rw [hb]
    have hm : ((c.toNat : Int) - 48) % 256 = (c.toNat : Int) - 48 := by omega
    rw [hm]
    by_cases hg : 10 * n + (c.toNat - 48) > 9223372036854775807
    · rw [if_pos hg, if_pos (by omega)]; rfl
    · rw [if_neg hg, if_neg (by omega)]
      rw [wrap_id (x := 10 * (n : Int)) (by omega) (by omega), wrap_id (by omega) (by omega)]
      have := ih (i + 1) (10 * n + (c.toNat - 48)) (by omega) (by omega)
      rw [← this]
      congr 1
      omega
theorem number_f (s : ByteArray) (hs : s.size ≤ 140737488351232) (hd : ∀ c ∈ bl s, isDigit c = true) :
    lex_number.f s = some (match numB (bl s) 0 with | some n => ((n : Int), true) | none => (0, false)) := by
  unfold lex_number.f
  rw [if_pos hs]
  have := number_go s hd s.size 0 0 (by omega) (by omega)
  simp only [List.drop_zero] at this
  rw [show ((0 : Nat) : Int) = 0 from rfl] at this
  rw [this]
  cases numB (bl s) 0 <;> rfl
/-! ### signs -/
theorem begins_eq (s p : ByteArray) : lexBegins s p = decide ((bl s).take (bl p).length = bl p) := by
  unfold lexBegins
  rw [Bool.eq_iff_iff]
  simp only [Bool.and_eq_true, decide_eq_true_eq, beq_iff_eq, toList_bl]
  rw [bl_extract, List.drop_zero, Nat.sub_zero, ← bl_length p]
  constructor
  · exact fun h => h.2
  · intro h
    refine ⟨?_, h⟩
    have := congrArg List.length h
    rw [List.length_take] at this
    rw [← bl_length s]; omega
theorem find_mem (l : List UInt8) (c : UInt8) : l.find? (fun x => decide (c = x)) = if c ∈ l then some c else none := by
  induction l with
  | nil => rfl
  | cons x l ih =>
    rw [List.find?_cons]
    by_cases h : c = x
    · subst h; simp
    · rw [show decide (c = x) = false from by simp [h]]
      simp only [ih, List.mem_cons, h, false_or]
theorem pieces_eq : lexPieces = ([[60, 61], [62, 61], [60, 62]] : List (List UInt8)).map str ++ oneSigns.map (fun c => str [c]) := by decide +kernel
theorem sign_eq (s : ByteArray) : lexSign s = str (signB (bl s)) := by
  unfold lexSign signB
  rw [pieces_eq, List.find?_append]
  simp only [begins_eq, List.map_cons, List.map_nil, List.find?_cons, bl_str, List.length_cons, List.length_nil, Nat.zero_add, Nat.reduceAdd, List.find?_nil]
  by_cases h1 : (bl s).take 2 = [60, 61]
  · simp [h1]
  · by_cases h2 : (bl s).take 2 = [62, 61]
    · simp [h2]
    · by_cases h3 : (bl s).take 2 = [60, 62]
      · simp [h3]
      · simp only [h1, h2, h3, decide_false, or_self, if_false, Option.none_or]
        rw [List.find?_map]
        simp only [Function.comp_def, bl_str, List.length_cons, List.length_nil, Nat.zero_add]
        cases hb : bl s with
        | nil =>
          simp
          rfl
        | cons c r =>
          simp only [List.take_succ_cons, List.take_zero, List.cons.injEq, and_true, find_mem]
          by_cases hm : c ∈ oneSigns
          · simp [hm]
          · simp [hm]; rfl
theorem signB_len (c : UInt8) (r : List UInt8) (h : signB (c :: r) ≠ []) : 1 ≤ (signB (c :: r)).length ∧ (signB (c :: r)).length ≤ r.length + 1 ∧ (c :: r).take (signB (c :: r)).length = signB (c :: r) := by
  unfold signB at *
  by_cases h1 : (c :: r).take 2 = [60, 61] ∨ (c :: r).take 2 = [62, 61] ∨ (c :: r).take 2 = [60, 62]
  · rw [if_pos h1] at *
    have hl : ((c :: r).take 2).length = 2 := by rcases h1 with h | h | h <;> rw [h] <;> rfl
    rw [hl]
    rw [List.length_take] at hl
    simp only [List.length_cons] at hl
    exact ⟨by omega, by omega, rfl⟩
  · rw [if_neg h1] at *
    simp only at *
    by_cases h2 : c ∈ oneSigns
    · rw [if_pos h2]; simp
    · rw [if_neg h2] at h; exact absurd rfl h
/-! ### the loop -/
theorem space_f (c : UInt8) : lex_space.f (c.toNat : Int) = some (isSpace c) := by
  rw [← space_eq]; unfold lex_space.f lexSpace
  repeat' split
  all_goals simp_all
theorem digit_f (c : UInt8) : lex_digit.f (c.toNat : Int) = some (isDigit c) := by rw [lexDigit_f, digit_eq]
theorem letter_f (c : UInt8) : lex_letter.f (c.toNat : Int) = some (isLetter c) := by rw [lexLetter_f, letter_eq]
theorem cut_spaces (l : List UInt8) : ∀ off, cutB off l = cutB (off + (l.takeWhile isSpace).length) (l.drop (l.takeWhile isSpace).length) := by
  induction l with
  | nil => intro off; simp
  | cons c r ih =>
    intro off
    by_cases h : isSpace c = true
    · rw [cutB_cons, List.takeWhile_cons, if_pos h]
      have : itemB c r = .skip 0 := by unfold itemB; rw [if_pos h]
      rw [this]
      simp only [List.drop_zero, List.length_cons, List.drop_succ_cons, Nat.add_zero]
      rw [ih (off + 1)]
      congr 1
      omega
    · rw [List.takeWhile_cons, if_neg h]; rfl
theorem takeWhile_pos {p : UInt8 → Bool} {c : UInt8} {r : List UInt8} (h : p c = true) : (c :: r).takeWhile p = c :: r.takeWhile p := by rw [List.takeWhile_cons, if_pos h]
theorem takeWhile_len (p : UInt8 → Bool) (r : List UInt8) : (r.takeWhile p).length ≤ r.length := (List.takeWhile_sublist p).length_le
theorem takeWhile_take (p : UInt8 → Bool) (r : List UInt8) : r.take (r.takeWhile p).length = r.takeWhile p := by
  induction r with
  | nil => rfl
  | cons c r ih =>
    rw [List.takeWhile_cons]
    split
    · simp [ih]
    · rfl
theorem takeWhile_all (p : UInt8 → Bool) (r : List UInt8) : ∀ c ∈ r.takeWhile p, p c = true := by
  induction r with
  | nil => simp
  | cons c r ih =>
    rw [List.takeWhile_cons]
    split
    · rename_i h
      intro x hx
      rcases List.mem_cons.1 hx with rfl | hx
      · exact h
      · exact ih x hx
    · simp
theorem prog_loop (s : ByteArray) (hs : s.size ≤ 4096) : ∀ (n i : Nat) (acc : List Tok), s.size - i ≤ n → i ≤ s.size → acc.length ≤ i → ∀ k, n < k →
    lex_Cut.l0 k s acc (i : Int) = some (told acc (cutB i ((bl s).drop i))) := by
  intro n
  induction n using Nat.strongRecOn with
  | _ n ih =>
  intro i acc hn hi ha k hk
  obtain ⟨k, rfl⟩ : ∃ m, k = m + 1 := ⟨k - 1, by omega⟩
  by_cases hlt : i < s.size
  · cases hd : (bl s).drop i with
    | nil => have := congrArg List.length hd; rw [List.length_drop, bl_length] at this; simp at this; omega
    | cons c r =>
    obtain ⟨_, _, hr⟩ := bt_cons hd
    have hrl : r.length = s.size - i - 1 := by have := congrArg List.length hd; rw [List.length_drop, bl_length] at this; simp at this; omega
    simp only [lex_Cut.l0]
    rw [if_pos (by omega), if_pos (by omega), if_pos (by omega)]
    obtain ⟨rest, hrest⟩ : ∃ y, y = s.extract (i : Int).toNat s.size := ⟨_, rfl⟩
    have hbr : bl rest = c :: r := by rw [hrest, Int.toNat_natCast, bl_tail, hd]
    have hrs : rest.size = r.length + 1 := by rw [← bl_length, hbr]; rfl
    have hb0 : bt rest 0 = (c.toNat : Int) := by
      have := bt_nat rest 0
      rw [hbr] at this
      exact this
    rw [← hrest]
    rw [if_pos (by omega), hb0, space_f]
    simp only [Option.bind_some]
    -- what is left of a shorter text
    have next : ∀ (m : Nat) (acc' : List Tok), m ≤ r.length → acc'.length ≤ acc.length + 1 → ∀ x : Int, x = (m : Int) + 1 → lex_Cut.l0 k s acc' (wrap64 ((i : Int) + x)) = some (told acc' (cutB (i + m + 1) (r.drop m))) := by
      intro m acc' hm ha' x hx
      rw [wrap_id (by omega) (by omega), show (i : Int) + x = ((i + m + 1 : Nat) : Int) by omega]
      have := ih (s.size - (i + m + 1)) (by omega) (i + m + 1) acc' (by omega) (by omega) (by omega) k (by omega)
      rw [this, show i + m + 1 = i + (m + 1) by omega, ← List.drop_drop, hd]
      rfl
    rw [cutB_cons]
    unfold itemB
    by_cases h1 : isSpace c = true
    · rw [if_pos h1, if_pos h1, span1_f rest (by omega)]
      simp only [Option.bind_some]
      rw [hbr, takeWhile_pos h1]
      have hl := takeWhile_len isSpace r
      rw [next (r.takeWhile isSpace).length acc hl (by omega) _ (by simp)]
      simp only [List.drop_zero, Nat.add_zero]
      rw [cut_spaces r (i + 1), show i + (r.takeWhile isSpace).length + 1 = i + 1 + (r.takeWhile isSpace).length by omega]
    · rw [if_neg h1, if_neg h1]
      by_cases h2 : c = 35
      · rw [if_pos (show (c.toNat : Int) = 35 by rw [h2]; rfl), if_pos h2, span2_f rest (by omega)]
        simp only [Option.bind_some]
        have ho : isOther c = true := by rw [h2]; rfl
        rw [hbr, takeWhile_pos ho]
        rw [next (r.takeWhile isOther).length acc (takeWhile_len _ _) (by omega) _ (by simp)]
      · rw [if_neg (show ¬ (c.toNat : Int) = 35 from fun h => h2 ((u8eq c 35 (by omega)).2 (by omega))), if_neg h2, digit_f]
        simp only [Option.bind_some]
        by_cases h3 : isDigit c = true
        · rw [if_pos h3, if_pos h3, span3_f rest (by omega)]
          simp only [Option.bind_some]
          have hl := takeWhile_len isDigit r
          rw [hbr, takeWhile_pos h3, if_pos (by omega), if_pos (by simp; omega)]
          obtain ⟨y, hy⟩ : ∃ y, y = rest.extract 0 (((c :: r.takeWhile isDigit).length : Nat) : Int).toNat := ⟨_, rfl⟩
          have hby : bl y = c :: r.takeWhile isDigit := by
            rw [hy, bl_extract, hbr]; simp [takeWhile_take]
          rw [← hy]
          have hys : y.size = (r.takeWhile isDigit).length + 1 := by rw [← bl_length, hby]; rfl
          rw [number_f y (by omega) (by rw [hby]; intro x hx; rcases List.mem_cons.1 hx with rfl | hx; exact h3; exact takeWhile_all _ _ x hx), hby]
          cases hnum : numB (c :: r.takeWhile isDigit) 0 with
          | none => simp [told]
          | some v =>
            simp only [Option.bind_some, if_true]
            rw [if_pos (by omega), next (r.takeWhile isDigit).length _ hl (by simp) _ (by rw [hys]; omega), told_cons]
            rfl
        · rw [if_neg h3, if_neg h3, letter_f]
          simp only [Option.bind_some]
          by_cases h4 : isLetter c = true
          · rw [if_pos h4, if_pos h4, span4_f rest (by omega)]
            simp only [Option.bind_some]
            have hp : isPart c = true := by unfold isPart; rw [h4]; rfl
            have hl := takeWhile_len isPart r
            rw [hbr, takeWhile_pos hp, if_pos (by omega), if_pos (by simp; omega)]
            obtain ⟨y, hy⟩ : ∃ y, y = rest.extract 0 (((c :: r.takeWhile isPart).length : Nat) : Int).toNat := ⟨_, rfl⟩
            have hby : bl y = c :: r.takeWhile isPart := by
              rw [hy, bl_extract, hbr]; simp [takeWhile_take]
            rw [← hy]
            have hys : y.size = (r.takeWhile isPart).length + 1 := by rw [← bl_length, hby]; rfl
            rw [if_pos (by omega), next (r.takeWhile isPart).length _ hl (by simp) _ (by rw [hys]; omega), told_cons]
            rw [← hby, str_bl]
            rfl
          · rw [if_neg h4, if_neg h4]
            simp only [lex_sign.f, Option.bind_some]
            rw [sign_eq, hbr, toList_bl, bl_str]
            by_cases h5 : signB (c :: r) = []
            · rw [if_pos h5, if_pos h5]; simp [told]
            · rw [if_neg h5, if_neg h5]
              obtain ⟨g1, g2, _⟩ := signB_len c r h5
              rw [if_pos (by omega), next ((signB (c :: r)).length - 1) _ (by omega) (by simp) _ (by rw [str_size]; omega), told_cons]
              rfl
  · have : i = s.size := by omega
    simp only [lex_Cut.l0]
    rw [if_neg (by omega), List.drop_eq_nil_of_le (by rw [bl_length]; omega), cutB_nil]
    simp [told]
/-- The program's Cut, whatever the text. -/
theorem prog_cut (s : ByteArray) : Ev (fun k => lex_Cut.f k s) (if s.size > 4096 then ([], 0, 1) else told [] (cutB 0 (bl s))) := by
  refine ⟨4098, fun k hk => ?_⟩
  unfold lex_Cut.f
  dsimp only
  by_cases h : s.size > 4096
  · rw [if_pos (by omega), if_pos h]
  · rw [if_neg (by omega), if_neg h]
    have := prog_loop s (by omega) 4096 0 [] (by omega) (by omega) (by simp) k (by omega)
    simpa using this
end Go.Proofs.YtdbccnhdblljbaaDoor.P
