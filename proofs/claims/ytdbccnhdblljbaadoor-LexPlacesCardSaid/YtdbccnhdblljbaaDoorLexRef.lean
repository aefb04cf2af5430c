/- The document's Cut tells what cutB tells, for every text of at most 4096 bytes; a longer one is told so. No condition. -/
import Derived.Test.YtdbccnhdblljbaaDoorLexProg
namespace Go.Proofs.YtdbccnhdblljbaaDoor.P
open Go.RowKit Go.Proofs.YtdbccnhdblljbaaDoorW.PrintWords Go.Proofs.YtdbccnhdblljbaaDoorW.PrintLast Go.Proofs.YtdbccnhdblljbaaDoorW.PrintMore
set_option linter.unusedVariables false
set_option linter.unusedSimpArgs false

theorem rdigit_f (c : UInt8) : headgateref20_digit.f (c.toNat : Int) = some (isDigit c) := by
  rw [← digit_eq]; unfold headgateref20_digit.f lexDigit; split <;> simp_all <;> omega
theorem rletter_f (c : UInt8) : headgateref20_letter.f (c.toNat : Int) = some (isLetter c) := by
  rw [← letter_eq]; unfold headgateref20_letter.f lexLetter; repeat' split
  all_goals simp_all
  all_goals omega
/-- The loops over one kind of bytes: from some number of rounds on. -/
theorem rend_l0 (s : ByteArray) (hs : s.size ≤ 4096) : ∀ (n i : Nat), s.size - i ≤ n → i ≤ s.size → Ev (fun k => headgateref20_end.l0 k s (i : Int)) ((i + (((bl s).drop i).takeWhile isDigit).length : Nat) : Int) := by
  intro n
  induction n with
  | zero =>
    intro i hn hi
    refine Ev.step (fun k => by rw [headgateref20_end.l0]) ?_
    simp only [if_neg (show ¬ (i : Int) < (s.size : Int) by omega)]
    rw [List.drop_eq_nil_of_le (by rw [bl_length]; omega)]
    exact Ev.now _
  | succ n ih =>
    intro i hn hi
    refine Ev.step (fun k => by rw [headgateref20_end.l0]) ?_
    by_cases hlt : i < s.size
    · cases hd : (bl s).drop i with
      | nil => have := congrArg List.length hd; rw [List.length_drop, bl_length] at this; simp at this; omega
      | cons c r =>
      obtain ⟨hb, _, hr⟩ := bt_cons hd
      simp only [if_pos (show (i : Int) < (s.size : Int) by omega), if_pos (show (0 : Int) ≤ (i : Int) by omega), hb, rdigit_f, Option.bind_some]
      by_cases h : isDigit c = true
      · simp only [h, if_true, takeWhile_pos]
        rw [wrap_id (by omega) (by omega), show (i : Int) + 1 = ((i + 1 : Nat) : Int) by omega]
        have := ih (i + 1) (by omega) (by omega)
        rw [hr] at this
        rw [show i + (c :: r.takeWhile isDigit).length = i + 1 + (r.takeWhile isDigit).length by simp; omega]
        exact this
      · simp only [h, List.takeWhile_cons]
        simp only [Bool.false_eq_true, if_false, List.length_nil, Nat.add_zero]
        exact Ev.now _
    · simp only [if_neg (show ¬ (i : Int) < (s.size : Int) by omega)]
      rw [List.drop_eq_nil_of_le (by rw [bl_length]; omega)]
      exact Ev.now _
theorem rend_l1 (s : ByteArray) (hs : s.size ≤ 4096) : ∀ (n i : Nat), s.size - i ≤ n → i ≤ s.size → Ev (fun k => headgateref20_end.l1 k s (i : Int)) ((i + (((bl s).drop i).takeWhile isPart).length : Nat) : Int) := by
  intro n
  induction n with
  | zero =>
    intro i hn hi
    refine Ev.step (fun k => by rw [headgateref20_end.l1]) ?_
    simp only [if_neg (show ¬ (i : Int) < (s.size : Int) by omega)]
    rw [List.drop_eq_nil_of_le (by rw [bl_length]; omega)]
    exact Ev.now _
  | succ n ih =>
    intro i hn hi
    refine Ev.step (fun k => by rw [headgateref20_end.l1]) ?_
    by_cases hlt : i < s.size
    · cases hd : (bl s).drop i with
      | nil => have := congrArg List.length hd; rw [List.length_drop, bl_length] at this; simp at this; omega
      | cons c r =>
      obtain ⟨hb, _, hr⟩ := bt_cons hd
      have next : isPart c = true → Ev (fun k => headgateref20_end.l1 k s (wrap64 ((i : Int) + 1))) ((i + ((c :: r).takeWhile isPart).length : Nat) : Int) := fun h => by
        rw [takeWhile_pos h, wrap_id (by omega) (by omega), show (i : Int) + 1 = ((i + 1 : Nat) : Int) by omega]
        have := ih (i + 1) (by omega) (by omega)
        rw [hr] at this
        rw [show i + (c :: r.takeWhile isPart).length = i + 1 + (r.takeWhile isPart).length by simp; omega]
        exact this
      simp only [if_pos (show (i : Int) < (s.size : Int) by omega), if_pos (show (0 : Int) ≤ (i : Int) by omega), hb, rletter_f, rdigit_f, Option.bind_some]
      by_cases h : isLetter c = true
      · simp only [h, if_true]
        exact next (by unfold isPart; rw [h]; rfl)
      · simp only [h, Bool.false_eq_true, if_false]
        by_cases h' : isDigit c = true
        · simp only [h', if_true]
          exact next (by unfold isPart; rw [h']; simp)
        · simp only [h', Bool.false_eq_true, if_false]
          rw [List.takeWhile_cons, if_neg (by unfold isPart; simp [h, h'])]
          exact Ev.now _
    · simp only [if_neg (show ¬ (i : Int) < (s.size : Int) by omega)]
      rw [List.drop_eq_nil_of_le (by rw [bl_length]; omega)]
      exact Ev.now _
theorem rtwo_f (s : ByteArray) : headgateref20_two.f s = some (decide (bl s = [60, 61] ∨ bl s = [62, 61] ∨ bl s = [60, 62])) := by
  unfold headgateref20_two.f
  simp only [toList_bl]
  repeat' split
  all_goals simp_all
  rw [Bool.eq_iff_iff]; simp
def signsS : ByteArray := ⟨#[43, 45, 42, 47, 37, 61, 60, 62, 40, 41, 44, 58, 59, 123, 125, 91, 93]⟩
theorem rone_l (c : UInt8) : ∀ (n i : Nat), 17 - i ≤ n → i ≤ 17 → Ev (fun k => headgateref20_one.l0 k (c.toNat : Int) signsS (i : Int)) (decide (c ∈ oneSigns.drop i)) := by
  have hz : signsS.size = 17 := rfl
  intro n
  induction n with
  | zero =>
    intro i hn hi
    refine Ev.step (fun k => by rw [headgateref20_one.l0]) ?_
    simp only [if_neg (show ¬ (i : Int) < (signsS.size : Int) by omega)]
    rw [show oneSigns.drop i = [] from List.drop_eq_nil_of_le (by show 17 ≤ i; omega)]
    exact Ev.now _
  | succ n ih =>
    intro i hn hi
    refine Ev.step (fun k => by rw [headgateref20_one.l0]) ?_
    by_cases hlt : i < 17
    · have hl : i < (bl signsS).length := by rw [bl_length]; omega
      have e := List.drop_eq_getElem_cons hl
      obtain ⟨hb, _, _⟩ := bt_cons e
      have ed : oneSigns.drop i = (bl signsS)[i] :: oneSigns.drop (i + 1) := e
      generalize (bl signsS)[i] = x at *
      simp only [if_pos (show (i : Int) < (signsS.size : Int) by omega), if_pos (show (0 : Int) ≤ (i : Int) by omega), hb]
      rw [ed]
      by_cases h : x = c
      · simp only [if_pos (show (x.toNat : Int) = (c.toNat : Int) by rw [h])]
        rw [show decide (c ∈ x :: oneSigns.drop (i + 1)) = true by simp [h]]
        exact Ev.now _
      · simp only [if_neg (show ¬ (x.toNat : Int) = (c.toNat : Int) from fun h' => h (UInt8.toNat_inj.1 (by omega)))]
        rw [wrap_id (by omega) (by omega), show (i : Int) + 1 = ((i + 1 : Nat) : Int) by omega, show decide (c ∈ x :: oneSigns.drop (i + 1)) = decide (c ∈ oneSigns.drop (i + 1)) by simp [Ne.symm h]]
        exact ih (i + 1) (by omega) (by omega)
    · have : i = 17 := by omega
      subst this
      simp only [if_neg (show ¬ ((17 : Nat) : Int) < (signsS.size : Int) by omega)]
      exact Ev.now _
theorem rone_f (c : UInt8) : Ev (fun k => headgateref20_one.f k (c.toNat : Int)) (decide (c ∈ oneSigns)) := by
  have := rone_l c 17 0 (by omega) (by omega)
  simpa [headgateref20_one.f, signsS] using this
/-- Where the token ends that begins at a place; the place: there is none. -/
def endB (c : UInt8) (r : List UInt8) : Nat :=
  if isDigit c then (r.takeWhile isDigit).length + 1 else if isLetter c then (r.takeWhile isPart).length + 1 else (signB (c :: r)).length
theorem rend_f (s : ByteArray) (hs : s.size ≤ 4096) (i : Nat) (c : UInt8) (r : List UInt8) (hd : (bl s).drop i = c :: r) :
    Ev (fun k => headgateref20_end.f k s (i : Int)) ((i + endB c r : Nat) : Int) := by
  obtain ⟨hb, hi, hr⟩ := bt_cons hd
  have hrl : r.length = s.size - i - 1 := by have := congrArg List.length hd; rw [List.length_drop, bl_length] at this; simp at this; omega
  unfold headgateref20_end.f endB
  simp only [if_pos (show (i : Int) < (s.size : Int) by omega), if_pos (show (0 : Int) ≤ (i : Int) by omega), hb, rletter_f, rdigit_f, Option.bind_some]
  by_cases h1 : isDigit c = true
  · simp only [h1, if_true]
    have := rend_l0 s hs s.size i (by omega) (by omega)
    rw [hd, takeWhile_pos h1] at this
    exact this
  · simp only [h1, Bool.false_eq_true, if_false]
    by_cases h2 : isLetter c = true
    · simp only [h2, if_true]
      have := rend_l1 s hs s.size i (by omega) (by omega)
      rw [hd, takeWhile_pos (by unfold isPart; rw [h2]; rfl)] at this
      exact this
    · simp only [h2, Bool.false_eq_true, if_false]
      rw [wrap_id (x := (i : Int) + 2) (by omega) (by omega)]
      have hone : Ev (fun k => headgateref20_end.j2 k s (i : Int) false) ((i + (if c ∈ oneSigns then 1 else 0) : Nat) : Int) := by
        refine Ev.step (fun k => by rw [headgateref20_end.j2]) ?_
        simp only [Bool.false_eq_true, if_false, if_pos (show (i : Int) < (s.size : Int) by omega), if_pos (show (0 : Int) ≤ (i : Int) by omega), hb]
        refine Ev.bind (rone_f c) ?_
        by_cases h : c ∈ oneSigns
        · simp only [h, decide_true, if_true]
          rw [wrap_id (by omega) (by omega)]
          exact Ev.now _
        · simp only [h, decide_false, Bool.false_eq_true, if_false]
          exact Ev.now _
      have htwo : ∀ b : Bool, Ev (fun k => headgateref20_end.j2 k s (i : Int) b) ((i + (if b then 2 else if c ∈ oneSigns then 1 else 0) : Nat) : Int) := by
        intro b
        cases b with
        | false => exact hone
        | true =>
          refine Ev.step (fun k => by rw [headgateref20_end.j2]) ?_
          simp only [if_true]
          rw [wrap_id (by omega) (by omega)]
          exact Ev.now _
      have hsl : (signB (c :: r)).length = if (c :: r).take 2 = [60, 61] ∨ (c :: r).take 2 = [62, 61] ∨ (c :: r).take 2 = [60, 62] then 2 else if c ∈ oneSigns then 1 else 0 := by
        unfold signB
        by_cases h : (c :: r).take 2 = [60, 61] ∨ (c :: r).take 2 = [62, 61] ∨ (c :: r).take 2 = [60, 62]
        · rw [if_pos h, if_pos h]; rcases h with h | h | h <;> rw [h] <;> rfl
        · rw [if_neg h, if_neg h]; simp only; split <;> rfl
      rw [hsl]
      by_cases h3 : i + 2 ≤ s.size
      · simp only [if_pos (show (i : Int) + 2 ≤ (s.size : Int) by omega), if_pos (show (i : Int) ≤ (i : Int) + 2 by omega), rtwo_f, Option.bind_some]
        have e : bl (s.extract ((i : Int)).toNat ((i : Int) + 2).toNat) = (c :: r).take 2 := by
          rw [bl_extract, Int.toNat_natCast, show ((i : Int) + 2).toNat = i + 2 by omega, hd, show i + 2 - i = 2 by omega]
        rw [e]
        have := htwo (decide ((c :: r).take 2 = [60, 61] ∨ (c :: r).take 2 = [62, 61] ∨ (c :: r).take 2 = [60, 62]))
        simp only [decide_eq_true_eq] at this
        exact this
      · simp only [if_neg (show ¬ (i : Int) + 2 ≤ (s.size : Int) by omega)]
        have : r = [] := List.eq_nil_of_length_eq_zero (by omega)
        subst this
        rw [if_neg (by simp)]
        exact hone
/-! ### the loops of Cut -/
theorem rnum_l (s : ByteArray) (hs : s.size ≤ 4096) (acc : List Tok) (i : Nat) (he : Nat) (hes : he ≤ s.size) (res : List Tok × Int × Int) (l : List UInt8) :
    ∀ (j n : Nat), l.length = he - j → j ≤ he → ((bl s).drop j).take (he - j) = l → (∀ c ∈ l, isDigit c = true) → n ≤ 9223372036854775807 → acc.length < 3518437208883 →
      (∀ m, numB l n = some m → Ev (fun k => headgateref20_Cut.l0 k s (acc ++ [⟨1, (m : Int), ⟨#[]⟩, (i : Int)⟩]) (he : Int)) res) → (numB l n = none → res = ([], (i : Int), 6)) →
      Ev (fun k => headgateref20_Cut.l2 k s acc (i : Int) (he : Int) (n : Int) (j : Int)) res := by
  induction l with
  | nil =>
    intro j n hl hj ht hd hn ha hok hbad
    refine Ev.step (fun k => by rw [headgateref20_Cut.l2]) ?_
    have : j = he := by simp at hl; omega
    subst this
    simp only [if_neg (show ¬ (j : Int) < (j : Int) by omega), if_pos ha]
    exact hok n rfl
  | cons c l ih =>
    intro j n hl hj ht hd hn ha hok hbad
    refine Ev.step (fun k => by rw [headgateref20_Cut.l2]) ?_
    have hlt : j < he := by simp at hl; omega
    have hjl : j < (bl s).length := by rw [bl_length]; omega
    have e := List.drop_eq_getElem_cons hjl
    obtain ⟨hb, _, _⟩ := bt_cons e
    rw [e, show he - j = (he - (j + 1)) + 1 by omega, List.take_succ_cons] at ht
    injection ht with ht1 ht2
    rw [ht1] at hb
    have hv := isDigit_val (hd c List.mem_cons_self)
    have hm : ((c.toNat : Int) - 48) % 256 = (c.toNat : Int) - 48 := by omega
    simp only [if_pos (show (j : Int) < (he : Int) by omega), if_pos (show (0 : Int) ≤ (j : Int) by omega), if_pos (show (j : Int) < (s.size : Int) by omega), hb, hm]
    have hnum : numB (c :: l) n = if 10 * n + (c.toNat - 48) > 9223372036854775807 then none else numB l (10 * n + (c.toNat - 48)) := rfl
    rw [hnum] at hok hbad
    have next : ¬ 10 * n + (c.toNat - 48) > 9223372036854775807 → Ev (fun k => headgateref20_Cut.l2 k s acc (i : Int) (he : Int) (wrap64 (wrap64 (10 * (n : Int)) + ((c.toNat : Int) - 48))) (wrap64 ((j : Int) + 1))) res := by
      intro h
      rw [if_neg h] at hok hbad
      rw [wrap_id (x := 10 * (n : Int)) (by omega) (by omega), wrap_id (x := 10 * (n : Int) + _) (by omega) (by omega), wrap_id (x := (j : Int) + 1) (by omega) (by omega),
        show 10 * (n : Int) + ((c.toNat : Int) - 48) = ((10 * n + (c.toNat - 48) : Nat) : Int) by omega, show (j : Int) + 1 = ((j + 1 : Nat) : Int) by omega]
      exact ih (j + 1) _ (by simp at hl; omega) (by omega) ht2 (fun x hx => hd x (List.mem_cons_of_mem _ hx)) (by omega) ha hok hbad
    by_cases h1 : (n : Int) > 922337203685477580
    · simp only [if_pos h1]
      rw [if_pos (by omega)] at hbad
      rw [hbad rfl]
      exact Ev.now _
    · simp only [if_neg h1]
      by_cases h2 : (n : Int) = 922337203685477580
      · simp only [if_pos h2]
        by_cases h3 : (c.toNat : Int) - 48 > 7
        · simp only [if_pos h3]
          rw [if_pos (by omega)] at hbad
          rw [hbad rfl]
          exact Ev.now _
        · simp only [if_neg h3]
          exact next (by omega)
      · simp only [if_neg h2]
        exact next (by omega)
theorem rcom_l (s : ByteArray) (hs : s.size ≤ 4096) (acc : List Tok) (res : List Tok × Int × Int) : ∀ (n i : Nat), s.size - i ≤ n → i ≤ s.size →
    Ev (fun k => headgateref20_Cut.l0 k s acc ((i + (((bl s).drop i).takeWhile isOther).length : Nat) : Int)) res → Ev (fun k => headgateref20_Cut.l1 k s acc (i : Int)) res := by
  intro n
  induction n with
  | zero =>
    intro i hn hi h
    refine Ev.step (fun k => by rw [headgateref20_Cut.l1]) ?_
    simp only [if_neg (show ¬ (i : Int) < (s.size : Int) by omega)]
    rw [List.drop_eq_nil_of_le (by rw [bl_length]; omega)] at h
    exact h
  | succ n ih =>
    intro i hn hi h
    refine Ev.step (fun k => by rw [headgateref20_Cut.l1]) ?_
    by_cases hlt : i < s.size
    · cases hd : (bl s).drop i with
      | nil => have := congrArg List.length hd; rw [List.length_drop, bl_length] at this; simp at this; omega
      | cons c r =>
      obtain ⟨hb, _, hr⟩ := bt_cons hd
      rw [hd] at h
      simp only [if_pos (show (i : Int) < (s.size : Int) by omega), if_pos (show (0 : Int) ≤ (i : Int) by omega), hb]
      by_cases hc : (c.toNat : Int) = 10
      · simp only [if_pos hc]
        rw [List.takeWhile_cons, if_neg (by rw [← other_eq, hc]; decide)] at h
        exact h
      · simp only [if_neg hc]
        rw [takeWhile_pos (by rw [← other_eq]; unfold lexOther; simpa using hc)] at h
        rw [wrap_id (by omega) (by omega), show (i : Int) + 1 = ((i + 1 : Nat) : Int) by omega]
        refine ih (i + 1) (by omega) (by omega) ?_
        rw [hr, show i + 1 + (r.takeWhile isOther).length = i + (c :: r.takeWhile isOther).length by simp; omega]
        exact h
    · simp only [if_neg (show ¬ (i : Int) < (s.size : Int) by omega)]
      rw [List.drop_eq_nil_of_le (by rw [bl_length]; omega)] at h
      exact h
theorem ref_loop (s : ByteArray) (hs : s.size ≤ 4096) : ∀ (n i : Nat) (acc : List Tok), s.size - i ≤ n → i ≤ s.size → acc.length ≤ i →
    Ev (fun k => headgateref20_Cut.l0 k s acc (i : Int)) (told acc (cutB i ((bl s).drop i))) := by
  intro n
  induction n using Nat.strongRecOn with
  | _ n ih =>
  intro i acc hn hi ha
  refine Ev.step (fun k => by rw [headgateref20_Cut.l0]) ?_
  by_cases hlt : i < s.size
  · cases hd : (bl s).drop i with
    | nil => have := congrArg List.length hd; rw [List.length_drop, bl_length] at this; simp at this; omega
    | cons c r =>
    obtain ⟨hb, _, hr⟩ := bt_cons hd
    have hrl : r.length = s.size - i - 1 := by have := congrArg List.length hd; rw [List.length_drop, bl_length] at this; simp at this; omega
    simp only [if_pos (show (i : Int) < (s.size : Int) by omega), if_pos (show (0 : Int) ≤ (i : Int) by omega), hb]
    have next : ∀ (m : Nat) (acc' : List Tok), m ≤ r.length → acc'.length ≤ acc.length + 1 → Ev (fun k => headgateref20_Cut.l0 k s acc' ((i + m + 1 : Nat) : Int)) (told acc' (cutB (i + m + 1) (r.drop m))) := by
      intro m acc' hm ha'
      have := ih (s.size - (i + m + 1)) (by omega) (i + m + 1) acc' (by omega) (by omega) (by omega)
      rw [show i + m + 1 = i + (m + 1) by omega, ← List.drop_drop, hd] at this
      exact this
    have hj : Ev (fun k => headgateref20_Cut.j1 k s acc (i : Int) (c.toNat : Int) (isSpace c)) (told acc (cutB i (c :: r))) := by
      refine Ev.step (fun k => by rw [headgateref20_Cut.j1]) ?_
      rw [cutB_cons]
      unfold itemB
      by_cases h1 : isSpace c = true
      · simp only [h1, if_true]
        rw [wrap_id (by omega) (by omega), show (i : Int) + 1 = ((i + 0 + 1 : Nat) : Int) by omega]
        exact next 0 acc (by omega) (by omega)
      · simp only [h1, Bool.false_eq_true, if_false]
        by_cases h2 : c = 35
        · simp only [if_pos (show (c.toNat : Int) = 35 by rw [h2]; rfl), if_pos h2]
          refine rcom_l s hs acc _ s.size i (by omega) (by omega) ?_
          rw [hd, takeWhile_pos (by rw [h2]; rfl), show i + (c :: r.takeWhile isOther).length = i + (r.takeWhile isOther).length + 1 by simp; omega]
          exact next _ acc (takeWhile_len _ _) (by omega)
        · simp only [if_neg (show ¬ (c.toNat : Int) = 35 from fun h => h2 ((u8eq c 35 (by omega)).2 (by omega))), if_neg h2]
          refine Ev.bind (rend_f s hs i c r hd) ?_
          have hle : endB c r ≤ r.length + 1 := by
            unfold endB
            split
            · have := takeWhile_len isDigit r; omega
            · split
              · have := takeWhile_len isPart r; omega
              · by_cases h : signB (c :: r) = []
                · rw [h]; simp
                · exact (signB_len c r h).2.1
          have hex : 1 ≤ endB c r → bl (s.extract ((i : Int)).toNat (((i + endB c r : Nat) : Int)).toNat) = (c :: r).take (endB c r) := by
            intro _
            rw [bl_extract, Int.toNat_natCast, Int.toNat_natCast, hd, Nat.add_sub_cancel_left]
          -- what follows, for a word or a sign
          have plain : ∀ kd : Int, isDigit c = false → 1 ≤ endB c r → Ev (fun k => headgateref20_Cut.j3 k s acc (i : Int) (c.toNat : Int) ((i + endB c r : Nat) : Int) kd 0 (s.extract ((i : Int)).toNat (((i + endB c r : Nat) : Int)).toNat) (i : Int))
              (told (acc ++ [⟨kd, 0, str ((c :: r).take (endB c r)), (i : Int)⟩]) (cutB (i + (endB c r - 1) + 1) (r.drop (endB c r - 1)))) := by
            intro kd hdig h1
            refine Ev.step (fun k => by rw [headgateref20_Cut.j3]) ?_
            simp only [rdigit_f, hdig, Option.bind_some, Bool.false_eq_true, if_false, if_pos (show acc.length < 3518437208883 by omega)]
            rw [← hex h1, str_bl, show ((i + endB c r : Nat) : Int) = ((i + (endB c r - 1) + 1 : Nat) : Int) by omega]
            exact next _ _ (by omega) (by simp)
          by_cases h3 : isDigit c = true
          · have he : endB c r = (r.takeWhile isDigit).length + 1 := by unfold endB; rw [if_pos h3]
            simp only [if_neg (show ¬ ((i + endB c r : Nat) : Int) = (i : Int) by omega), if_pos (show (0 : Int) ≤ (i : Int) by omega), if_pos (show (i : Int) ≤ ((i + endB c r : Nat) : Int) by omega), if_pos (show ((i + endB c r : Nat) : Int) ≤ (s.size : Int) by omega), rletter_f, Option.bind_some]
            have hnl : isLetter c = false := by
              have := isDigit_val h3
              unfold isLetter
              rw [Bool.eq_false_iff]
              simp only [ne_eq, Bool.or_eq_true, Bool.and_eq_true, decide_eq_true_eq, UInt8.le_iff_toNat_le, beq_iff_eq]
              rintro (⟨h, _⟩ | h)
              · simp at h; omega
              · rw [h] at this; simp at this
            simp only [hnl, Bool.false_eq_true, if_false, h3, if_true]
            refine Ev.step (fun k => by rw [headgateref20_Cut.j3]) ?_
            simp only [rdigit_f, h3, Option.bind_some, if_true]
            refine rnum_l s hs acc i (i + endB c r) (by omega) _ (c :: r.takeWhile isDigit) i 0 (by simp; omega) (by omega) ?_ ?_ (by omega) (by omega) ?_ ?_
            · rw [hd, Nat.add_sub_cancel_left, he, List.take_succ_cons, takeWhile_take]
            · intro x hx; rcases List.mem_cons.1 hx with rfl | hx; exact h3; exact takeWhile_all _ _ x hx
            · intro m hm
              rw [hm]
              simp only
              rw [told_cons, show ((i + endB c r : Nat) : Int) = ((i + (r.takeWhile isDigit).length + 1 : Nat) : Int) by omega]
              exact next _ _ (takeWhile_len _ _) (by simp)
            · intro hm
              rw [hm]
              rfl
          · have h3f := Bool.eq_false_iff.mpr h3
            by_cases h4 : isLetter c = true
            · have he : endB c r = (r.takeWhile isPart).length + 1 := by unfold endB; rw [if_neg h3, if_pos h4]
              simp only [if_neg (show ¬ ((i + endB c r : Nat) : Int) = (i : Int) by omega), if_pos (show (0 : Int) ≤ (i : Int) by omega), if_pos (show (i : Int) ≤ ((i + endB c r : Nat) : Int) by omega), if_pos (show ((i + endB c r : Nat) : Int) ≤ (s.size : Int) by omega), rletter_f, Option.bind_some, h4, if_true, h3f, Bool.false_eq_true, if_false]
              have := plain 2 h3f (by omega)
              rw [told_cons]
              rw [he, List.take_succ_cons, takeWhile_take, Nat.add_sub_cancel] at this
              rw [he]
              exact this
            · have h4f := Bool.eq_false_iff.mpr h4
              have he : endB c r = (signB (c :: r)).length := by unfold endB; rw [if_neg h3, if_neg h4]
              simp only [h3f, h4f, Bool.false_eq_true, if_false]
              by_cases h5 : signB (c :: r) = []
              · rw [h5] at he
                simp only [if_pos (show ((i + endB c r : Nat) : Int) = (i : Int) by rw [he]; simp), if_pos h5]
                exact Ev.now _
              · obtain ⟨g1, g2, g3⟩ := signB_len c r h5
                simp only [if_neg (show ¬ ((i + endB c r : Nat) : Int) = (i : Int) by omega), if_pos (show (0 : Int) ≤ (i : Int) by omega), if_pos (show (i : Int) ≤ ((i + endB c r : Nat) : Int) by omega), if_pos (show ((i + endB c r : Nat) : Int) ≤ (s.size : Int) by omega), rletter_f, Option.bind_some, h4f, Bool.false_eq_true, if_false, if_neg h5]
                have := plain 3 h3f (by omega)
                rw [told_cons]
                rw [he, g3] at this
                rw [he]
                exact this
    have hsp : isSpace c = (decide ((c.toNat : Int) = 32) || decide ((c.toNat : Int) = 9) || decide ((c.toNat : Int) = 10) || ((c.toNat : Int) == 13)) := by
      rw [← space_eq]; rfl
    by_cases e1 : (c.toNat : Int) = 32
    · simp only [if_pos e1]; rw [hsp, e1] at hj; rw [e1]; exact hj
    · simp only [if_neg e1]
      by_cases e2 : (c.toNat : Int) = 9
      · simp only [if_pos e2]; rw [hsp, e2] at hj; rw [e2]; exact hj
      · simp only [if_neg e2]
        by_cases e3 : (c.toNat : Int) = 10
        · simp only [if_pos e3]; rw [hsp, e3] at hj; rw [e3]; exact hj
        · simp only [if_neg e3]
          rw [hsp] at hj
          simp only [e1, e2, e3, decide_false, Bool.false_or] at hj
          exact hj
  · have : i = s.size := by omega
    simp only [if_neg (show ¬ (i : Int) < (s.size : Int) by omega)]
    rw [List.drop_eq_nil_of_le (by rw [bl_length]; omega), cutB_nil]
    have : told acc (.ok []) = (acc, 0, 0) := by simp [told]
    rw [this]
    exact Ev.now _
/-- The document's Cut, whatever the text. -/
theorem ref_cut (s : ByteArray) : Ev (fun k => headgateref20_Cut.f k s) (if s.size > 4096 then ([], 0, 1) else told [] (cutB 0 (bl s))) := by
  unfold headgateref20_Cut.f
  by_cases h : s.size > 4096
  · simp only [if_pos (show (s.size : Int) > 4096 by omega), if_pos h]
    exact Ev.now _
  · simp only [if_neg (show ¬ (s.size : Int) > 4096 by omega), if_neg h]
    have := ref_loop s (by omega) 4096 0 [] (by omega) (by omega) (by simp)
    simpa using this
end Go.Proofs.YtdbccnhdblljbaaDoor.P
