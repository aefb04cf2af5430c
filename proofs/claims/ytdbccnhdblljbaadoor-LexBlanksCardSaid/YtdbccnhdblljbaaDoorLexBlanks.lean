/- The pure statement of LexBlanks: the tokens of two texts with blanks between them. No condition. -/
import Derived.Test.YtdbccnhdblljbaaDoorLexProg
import Derived.Test.YtdbccnhdblljbaaDoorF6
namespace Go.Proofs.YtdbccnhdblljbaaDoor.P.Blanks
open Go.RowKit Go.Proofs.YtdbccnhdblljbaaDoorW.PrintWords Go.Proofs.YtdbccnhdblljbaaDoorW.PrintLast Go.Proofs.YtdbccnhdblljbaaDoorW.PrintMore Go.Proofs.YtdbccnhdblljbaaDoor.P
set_option linter.unusedVariables false
set_option linter.unusedSimpArgs false

theorem awake20 : Ev (fun k => headgatelaw20_awake.f k) true := Ev.of (headgatelaw20_awake.mono) (k := 40) (by decide +kernel)
theorem same_refl (l : List Tok) (hl : l.length ≤ 9223372036854775806) : Ev (fun k => headgateref20_Same.f k l l) true := by
  have loop : ∀ (n i : Nat), l.length - i ≤ n → i ≤ l.length → Ev (fun k => headgateref20_Same.l0 k l l (i : Int)) true := by
    intro n
    induction n with
    | zero =>
      intro i hn hi
      refine Ev.step (fun k => by rw [headgateref20_Same.l0]) ?_
      simp only [if_neg (show ¬ (i : Int) < (l.length : Int) by omega)]
      exact Ev.now _
    | succ n ih =>
      intro i hn hi
      refine Ev.step (fun k => by rw [headgateref20_Same.l0]) ?_
      by_cases hlt : i < l.length
      · simp only [if_pos (show (i : Int) < (l.length : Int) by omega), if_pos (show (0 : Int) ≤ (i : Int) by omega), beq_self_eq_true, Bool.not_true, Bool.or_self, Bool.false_eq_true, if_false]
        rw [wrap_id (by omega) (by omega), show (i : Int) + 1 = ((i + 1 : Nat) : Int) by omega]
        exact ih (i + 1) (by omega) (by omega)
      · simp only [if_neg (show ¬ (i : Int) < (l.length : Int) by omega)]
        exact Ev.now _
  unfold headgateref20_Same.f
  simp only [if_true]
  exact loop l.length 0 (by omega) (by omega)
theorem told_len (l : List UInt8) : ∀ off, ∀ ts, cutB off l = .ok ts → ts.length ≤ l.length := by
  generalize hn : l.length = n
  induction n using Nat.strongRecOn generalizing l with
  | _ n ih =>
  intro off ts h
  cases l with
  | nil => rw [cutB_nil] at h; cases h; simp
  | cons c r =>
    rw [cutB_cons] at h
    simp only [List.length_cons] at hn
    cases hi : itemB c r with
    | skip m =>
      rw [hi] at h
      have := ih (r.drop m).length (by simp; omega) (r.drop m) rfl _ _ h
      simp at this; omega
    | tok k v s m =>
      rw [hi] at h
      simp only at h
      cases hc : cutB (off + m + 1) (r.drop m) with
      | error e => rw [hc] at h; cases h
      | ok ts' =>
        rw [hc] at h
        cases h
        have := ih (r.drop m).length (by simp; omega) (r.drop m) rfl _ _ hc
        simp at this ⊢; omega
    | bad e => rw [hi] at h; cases h
theorem cut_err (l : List UInt8) : ∀ off p e, cutB off l = .error (p, e) → e ≠ 0 := by
  generalize hn : l.length = n
  induction n using Nat.strongRecOn generalizing l with
  | _ n ih =>
  intro off p e h
  cases l with
  | nil => rw [cutB_nil] at h; cases h
  | cons c r =>
    rw [cutB_cons] at h
    simp only [List.length_cons] at hn
    cases hi : itemB c r with
    | skip m =>
      rw [hi] at h
      exact ih (r.drop m).length (by simp; omega) (r.drop m) rfl _ _ _ h
    | tok k v s m =>
      rw [hi] at h
      simp only at h
      cases hc : cutB (off + m + 1) (r.drop m) with
      | error x =>
        rw [hc] at h
        cases h
        exact ih (r.drop m).length (by simp; omega) (r.drop m) rfl _ _ _ hc
      | ok ts' => rw [hc] at h; cases h
    | bad x =>
      rw [hi] at h
      cases h
      unfold itemB at hi
      repeat' split at hi
      all_goals first | cases hi | skip
      all_goals decide
theorem rd_get (l : List Tok) (i : Nat) (t : Tok) (r : List Tok) (h : l.drop i = t :: r) : rd_T32 l (i : Int) = t ∧ i < l.length ∧ l.drop (i + 1) = r := by
  have hl : i < l.length := by
    rcases Nat.lt_or_ge i l.length with h' | h'
    · exact h'
    · rw [List.drop_eq_nil_of_le h'] at h; cases h
  have e := List.drop_eq_getElem_cons hl
  rw [e] at h
  injection h with h1 h2
  refine ⟨?_, hl, h2⟩
  unfold rd_T32
  rw [Int.toNat_natCast, List.getD_eq_getElem?_getD, List.getElem?_eq_getElem hl]
  exact h1

/-! ### cutting what ends with a line's end -/
theorem take_sep (p : UInt8 → Bool) (x : UInt8) (hp : p x = false) (l : List UInt8) : ∀ r : List UInt8, (r ++ x :: l).takeWhile p = r.takeWhile p
  | [] => by simp [List.takeWhile_cons, hp]
  | c :: r => by
    simp only [List.cons_append, List.takeWhile_cons]
    rw [take_sep p x hp l r]
theorem take_all (p : UInt8 → Bool) : ∀ r : List UInt8, (∀ x ∈ r, p x = true) → r.takeWhile p = r
  | [], _ => rfl
  | c :: r, h => by rw [List.takeWhile_cons, if_pos (h c (by simp)), take_all p r (fun x hx => h x (by simp [hx]))]
theorem take_one (r l : List UInt8) (x : UInt8) : (r ++ x :: l).take 1 = (r ++ [x]).take 1 := by cases r <;> rfl
theorem sign_sep (c : UInt8) (r l : List UInt8) : signB (c :: (r ++ 10 :: l)) = signB (c :: (r ++ [10])) := by
  unfold signB
  rw [show (c :: (r ++ 10 :: l)).take 2 = (c :: (r ++ [10])).take 2 by rw [List.take_succ_cons, List.take_succ_cons, take_one]]
theorem sign_len (c : UInt8) (r : List UInt8) : (signB (c :: (r ++ [10]))).length - 1 ≤ r.length := by
  unfold signB
  split
  · rename_i h
    cases r with
    | nil => simp at h
    | cons a r => simp
  · simp only
    split <;> simp
/-- How far an item reaches. -/
def more : Item → Nat
  | .skip m => m
  | .tok _ _ _ m => m
  | .bad _ => 0
theorem item_sep (c : UInt8) (r l : List UInt8) : itemB c (r ++ 10 :: l) = itemB c (r ++ [10]) := by
  unfold itemB
  rw [take_sep isOther 10 (by decide), take_sep isDigit 10 (by decide), take_sep isPart 10 (by decide), take_sep isOther 10 (by decide) [], take_sep isDigit 10 (by decide) [], take_sep isPart 10 (by decide) [], sign_sep]
theorem item_more (c : UInt8) (r : List UInt8) : more (itemB c (r ++ [10])) ≤ r.length := by
  unfold itemB
  rw [take_sep isOther 10 (by decide) [], take_sep isDigit 10 (by decide) [], take_sep isPart 10 (by decide) []]
  split
  · exact Nat.zero_le _
  · split
    · exact takeWhile_len _ _
    · split
      · split
        · exact takeWhile_len _ _
        · exact Nat.zero_le _
      · split
        · exact takeWhile_len _ _
        · split
          · exact Nat.zero_le _
          · exact sign_len c r
abbrev Cut := Except (Nat × Int) (List Tok)
def joined : Cut → Cut → Cut
  | .error e, _ => .error e
  | .ok _, .error e => .error e
  | .ok ts, .ok us => .ok (ts ++ us)
theorem cut_app (l : List UInt8) : ∀ (n : Nat) (a : List UInt8), a.length = n → ∀ off, cutB off (a ++ 10 :: l) = joined (cutB off (a ++ [10])) (cutB (off + n + 1) l) := by
  intro n
  induction n using Nat.strongRecOn with
  | _ n ih =>
  intro a ha off
  cases a with
  | nil =>
    subst ha
    have h0 : ∀ r, itemB 10 r = .skip 0 := fun r => by unfold itemB; rw [if_pos (by decide)]
    simp only [List.nil_append, List.length_nil]
    rw [cutB_cons, cutB_cons, h0, h0]
    simp only [List.drop_zero, cutB_nil, Nat.add_zero]
    cases cutB (off + 1) l <;> simp [joined]
  | cons c r =>
    simp only [List.length_cons] at ha
    simp only [List.cons_append]
    rw [cutB_cons, cutB_cons, item_sep]
    have hm := item_more c r
    have hd : ∀ m, m ≤ r.length → ∀ x : List UInt8, (r ++ x).drop m = r.drop m ++ x := fun m h x => by rw [List.drop_append_of_le_length h]
    cases hi : itemB c (r ++ [10]) with
    | skip m =>
      rw [hi] at hm
      have hm' : m ≤ r.length := hm
      simp only
      rw [hd m hm', hd m hm', ih (r.drop m).length (by simp; omega) (r.drop m) rfl]
      congr 2
      simp; omega
    | tok k v s m =>
      rw [hi] at hm
      have hm' : m ≤ r.length := hm
      simp only
      rw [hd m hm', hd m hm', ih (r.drop m).length (by simp; omega) (r.drop m) rfl]
      rw [show off + m + 1 + (r.drop m).length + 1 = off + n + 1 by simp; omega]
      cases cutB (off + m + 1) (r.drop m ++ [10]) <;> cases cutB (off + n + 1) l <;> simp [joined]
    | bad e => simp [joined]
/-- The same cut, further on. -/
def far (d : Nat) : Cut → Cut
  | .error (p, e) => .error (p + d, e)
  | .ok ts => .ok (ts.map fun t => ⟨t.f0, t.f1, t.f2, t.f3 + d⟩)
theorem cut_far (d : Nat) : ∀ (n : Nat) (l : List UInt8), l.length = n → ∀ off, cutB (off + d) l = far d (cutB off l) := by
  intro n
  induction n using Nat.strongRecOn with
  | _ n ih =>
  intro l hl off
  cases l with
  | nil => rw [cutB_nil, cutB_nil]; rfl
  | cons c r =>
    simp only [List.length_cons] at hl
    rw [cutB_cons, cutB_cons]
    cases hi : itemB c r with
    | skip m =>
      simp only
      rw [← ih (r.drop m).length (by simp; omega) (r.drop m) rfl]
      congr 1; omega
    | tok k v s m =>
      simp only
      rw [show off + d + m + 1 = off + m + 1 + d by omega, ih (r.drop m).length (by simp; omega) (r.drop m) rfl (off + m + 1)]
      cases cutB (off + m + 1) (r.drop m) with
      | error e => rfl
      | ok ts => simp [far]
    | bad e => rfl
/-- A line that is not to be cut fails ahead of its end. -/
theorem err_lt : ∀ (n : Nat) (a : List UInt8), a.length = n → ∀ off p e, cutB off (a ++ [10]) = .error (p, e) → p < off + n := by
  intro n
  induction n using Nat.strongRecOn with
  | _ n ih =>
  intro a ha off p e h
  cases a with
  | nil =>
    have h0 : ∀ r, itemB 10 r = .skip 0 := fun r => by unfold itemB; rw [if_pos (by decide)]
    rw [List.nil_append, cutB_cons, h0] at h
    simp only [List.drop_zero, cutB_nil] at h
    cases h
  | cons c r =>
    simp only [List.length_cons] at ha
    rw [List.cons_append, cutB_cons] at h
    have hm := item_more c r
    have hd : ∀ m, m ≤ r.length → ∀ x : List UInt8, (r ++ x).drop m = r.drop m ++ x := fun m h x => by rw [List.drop_append_of_le_length h]
    cases hi : itemB c (r ++ [10]) with
    | skip m =>
      rw [hi] at hm h
      have hm' : m ≤ r.length := hm
      simp only at h
      rw [hd m hm'] at h
      have := ih (r.drop m).length (by simp; omega) (r.drop m) rfl _ _ _ h
      simp at this; omega
    | tok k v s m =>
      rw [hi] at hm h
      have hm' : m ≤ r.length := hm
      simp only at h
      rw [hd m hm'] at h
      cases hc : cutB (off + m + 1) (r.drop m ++ [10]) with
      | error x =>
        rw [hc] at h
        cases h
        have := ih (r.drop m).length (by simp; omega) (r.drop m) rfl _ _ _ hc
        simp at this; omega
      | ok ts => rw [hc] at h; cases h
    | bad x =>
      rw [hi] at h
      cases h
      omega
/-! ### what may stand between -/
def betweens : List ByteArray := [(⟨#[32]⟩ : ByteArray), (⟨#[10]⟩ : ByteArray), (⟨#[9, 13, 10]⟩ : ByteArray), (⟨#[32, 35, 32, 97, 32, 63, 32, 98, 10]⟩ : ByteArray), (⟨#[10, 35, 10]⟩ : ByteArray)]
theorem mids (q : Int) (h0 : 0 ≤ q) (h5 : q < 5) : ∃ m, rdOf ByteArray.empty betweens q = m ∧ m.size ≤ 9 ∧ 1 ≤ m.size ∧ ∀ off l, cutB off (bl m ++ l) = cutB (off + m.size) l := by
  have sp : ∀ c, isSpace c = true → ∀ off l, cutB off (c :: l) = cutB (off + 1) l := fun c hc off l => by
    rw [cutB_cons]; unfold itemB; rw [if_pos hc]; rfl
  have hash : ∀ off r l, (∀ x ∈ r, isOther x = true) → cutB off (35 :: (r ++ 10 :: l)) = cutB (off + r.length + 2) l := fun off r l hr => by
    rw [cutB_cons]
    unfold itemB
    rw [if_neg (by decide), if_pos rfl, take_sep isOther 10 (by decide), take_all _ _ hr]
    simp only
    rw [List.drop_left, sp 10 (by decide)]
  have : q = 0 ∨ q = 1 ∨ q = 2 ∨ q = 3 ∨ q = 4 := by omega
  rcases this with rfl | rfl | rfl | rfl | rfl
  · exact ⟨_, rfl, by decide, by decide, fun off l => sp 32 (by decide) off l⟩
  · exact ⟨_, rfl, by decide, by decide, fun off l => sp 10 (by decide) off l⟩
  · refine ⟨_, rfl, by decide, by decide, fun off l => ?_⟩
    show cutB off (9 :: 13 :: 10 :: l) = _
    rw [sp 9 (by decide), sp 13 (by decide), sp 10 (by decide)]; rfl
  · refine ⟨_, rfl, by decide, by decide, fun off l => ?_⟩
    show cutB off (32 :: 35 :: ([32, 97, 32, 63, 32, 98] ++ 10 :: l)) = _
    rw [sp 32 (by decide), hash _ _ _ (by decide)]; rfl
  · refine ⟨_, rfl, by decide, by decide, fun off l => ?_⟩
    show cutB off (10 :: 35 :: ([] ++ 10 :: l)) = _
    rw [sp 10 (by decide), hash _ _ _ (by decide)]; rfl
theorem tok_range (l : List UInt8) : ∀ off ts, cutB off l = .ok ts → ∀ t ∈ ts, 0 ≤ t.f3 ∧ t.f3 ≤ off + l.length := by
  generalize hn : l.length = n
  induction n using Nat.strongRecOn generalizing l with
  | _ n ih =>
  intro off ts h
  cases l with
  | nil => rw [cutB_nil] at h; cases h; simp
  | cons c r =>
    rw [cutB_cons] at h
    simp only [List.length_cons] at hn
    cases hi : itemB c r with
    | skip m =>
      rw [hi] at h
      by_cases hm : m ≤ r.length
      · intro t ht
        have := ih (r.drop m).length (by simp; omega) (r.drop m) rfl _ _ h t ht
        simp at this; omega
      · simp only at h
        rw [List.drop_eq_nil_of_le (by omega), cutB_nil] at h; cases h; simp
    | tok k v s m =>
      rw [hi] at h
      simp only at h
      cases hc : cutB (off + m + 1) (r.drop m) with
      | error e => rw [hc] at h; cases h
      | ok ts' =>
        rw [hc] at h
        cases h
        intro t ht
        rcases List.mem_cons.1 ht with rfl | ht
        · simp; omega
        · by_cases hm : m ≤ r.length
          · have := ih (r.drop m).length (by simp; omega) (r.drop m) rfl _ _ hc t ht
            simp at this; omega
          · rw [List.drop_eq_nil_of_le (by omega), cutB_nil] at hc; cases hc; cases ht
    | bad e => rw [hi] at h; cases h
/-! ### the law -/
theorem blanks_loop (a m : ByteArray) (ha : a.size ≤ 2000) (hm : m.size ≤ 9) (l us : List Tok) (hl : l.length ≤ 4096) (hu : us.length ≤ 4096) (hr : ∀ t ∈ us, 0 ≤ t.f3 ∧ t.f3 ≤ 4096) :
    ∀ (d i : Nat), us.length - i ≤ d → i ≤ us.length → Ev (fun k => headgatelaw20_LexBlanks.l0 k a m l us (l ++ us.map fun t => ⟨t.f0, t.f1, t.f2, t.f3 + ((a.size + 1 + m.size : Nat) : Int)⟩) (i : Int)) true := by
  intro d
  have fin : ∀ i : Nat, i = us.length → Ev (fun k => headgatelaw20_LexBlanks.l0 k a m l us (l ++ us.map fun t => ⟨t.f0, t.f1, t.f2, t.f3 + ((a.size + 1 + m.size : Nat) : Int)⟩) (i : Int)) true := by
    intro i hi
    subst hi
    refine Ev.step (fun k => by rw [headgatelaw20_LexBlanks.l0]) ?_
    simp only [if_neg (show ¬ (us.length : Int) < (us.length : Int) by omega), if_pos (show (0 : Int) ≤ (l.length : Int) by omega), List.length_append, if_pos (show (l.length : Int) ≤ ((l.length + (us.map fun t => (⟨t.f0, t.f1, t.f2, t.f3 + ((a.size + 1 + m.size : Nat) : Int)⟩ : Tok)).length : Nat) : Int) by omega), Int.toNat_natCast, List.take_left]
    refine Ev.bind (same_refl l (by omega)) ?_
    simp only [if_true]
    exact Ev.bind awake20 (Ev.now _)
  induction d with
  | zero => intro i hd hi; exact fin i (by omega)
  | succ d ih =>
    intro i hd hi
    by_cases hin : i = us.length
    · exact fin i hin
    · cases hdr : us.drop i with
      | nil => have := congrArg List.length hdr; simp at this; omega
      | cons t r =>
      obtain ⟨hg, hlt, hr'⟩ := rd_get us i t r hdr
      have hmem : t ∈ us := List.mem_of_mem_drop (hdr ▸ List.mem_cons_self)
      obtain ⟨t0, t1⟩ := hr t hmem
      have hg2 := (rd_get (l ++ us.map fun t => (⟨t.f0, t.f1, t.f2, t.f3 + ((a.size + 1 + m.size : Nat) : Int)⟩ : Tok)) (l.length + i) ⟨t.f0, t.f1, t.f2, t.f3 + ((a.size + 1 + m.size : Nat) : Int)⟩ (r.map fun t => ⟨t.f0, t.f1, t.f2, t.f3 + ((a.size + 1 + m.size : Nat) : Int)⟩) (by
        rw [List.drop_append, List.drop_eq_nil_of_le (by omega), Nat.add_sub_cancel_left, ← List.map_drop, hdr]; rfl)).1
      have hw : wrap64 ((l.length : Int) + (i : Int)) = ((l.length + i : Nat) : Int) := by rw [wrap_id (by omega) (by omega)]; omega
      refine Ev.step (fun k => by rw [headgatelaw20_LexBlanks.l0]) ?_
      simp only [hw, if_pos (show (i : Int) < (us.length : Int) by omega), if_pos (show (0 : Int) ≤ ((l.length + i : Nat) : Int) by omega), List.length_append, List.length_map, if_pos (show ((l.length + i : Nat) : Int) < ((l.length + us.length : Nat) : Int) by omega), if_pos (show (0 : Int) ≤ (i : Int) by omega), hg, hg2, if_true]
      rw [wrap_id (x := t.f3 + (a.size : Int)) (by omega) (by omega), wrap_id (x := t.f3 + (a.size : Int) + 1) (by omega) (by omega), wrap_id (x := t.f3 + (a.size : Int) + 1 + (m.size : Int)) (by omega) (by omega), wrap_id (x := (i : Int) + 1) (by omega) (by omega), show (i : Int) + 1 = ((i + 1 : Nat) : Int) by omega]
      simp only [if_pos (show t.f3 + ((a.size + 1 + m.size : Nat) : Int) = t.f3 + (a.size : Int) + 1 + (m.size : Int) by omega)]
      exact ih (i + 1) (by omega) (by omega)
theorem LexBlanks : headgatelaw20_LexBlanks.Pure := by
  intro a b kind ha hb hk
  apply Ev.rounds
  unfold headgatelaw20_LexBlanks.f
  rw [wrap_id (x := (a.size : Int) + (b.size : Int)) (by omega) (by omega)]
  by_cases h : (a.size : Int) + (b.size : Int) > 2000
  · simp only [if_pos h]
    exact Ev.bind awake20 (Ev.now _)
  simp only [if_neg h]
  refine Ev.bind (Ev.now _) ?_
  have t1 := Int.tmod_lt_of_pos kind (show (0 : Int) < 5 by decide)
  have t2 := Int.lt_tmod_of_pos kind (show (0 : Int) < 5 by decide)
  generalize Int.tmod kind 5 = t at t1 t2
  rw [wrap_id (x := t + 5) (by omega) (by omega)]
  have q0 : 0 ≤ Int.tmod (t + 5) 5 := Int.tmod_nonneg _ (by omega)
  have q5 := Int.tmod_lt_of_pos (t + 5) (show (0 : Int) < 5 by decide)
  generalize Int.tmod (t + 5) 5 = q at q0 q5
  obtain ⟨m, hm, m9, m1, mc⟩ := mids q q0 q5
  unfold betweens at hm
  rw [hm]
  have s1 : (a ++ (⟨#[10]⟩ : ByteArray)).size = a.size + 1 := by rw [ByteArray.size_append]; rfl
  have s2 : (a ++ (⟨#[10]⟩ : ByteArray) ++ m).size = a.size + 1 + m.size := by rw [ByteArray.size_append, s1]
  have s3 : (a ++ (⟨#[10]⟩ : ByteArray) ++ m ++ b).size = a.size + 1 + m.size + b.size := by rw [ByteArray.size_append, s2]
  simp only [if_pos q0, List.length_cons, List.length_nil, if_pos (show q < ((0 + 1 + 1 + 1 + 1 + 1 : Nat) : Int) by omega), if_pos (show a.size + 1 ≤ 9223372036854775807 by omega), s1, s2, if_pos (show a.size + 1 + m.size ≤ 9223372036854775807 by omega), if_pos (show a.size + 1 + m.size + b.size ≤ 9223372036854775807 by omega)]
  refine Ev.bind (prog_cut _) ?_
  rw [s1, if_neg (show ¬ a.size + 1 > 4096 by omega)]
  refine Ev.bind (prog_cut _) ?_
  rw [if_neg (show ¬ b.size > 4096 by omega)]
  refine Ev.bind (prog_cut _) ?_
  rw [s3, if_neg (show ¬ a.size + 1 + m.size + b.size > 4096 by omega)]
  have e1 : bl (a ++ (⟨#[10]⟩ : ByteArray)) = bl a ++ [10] := by rw [bl_append]; rfl
  have e3 : bl (a ++ (⟨#[10]⟩ : ByteArray) ++ m ++ b) = bl a ++ 10 :: (bl m ++ bl b) := by rw [bl_append, bl_append, e1]; simp
  have hall : cutB 0 (bl a ++ 10 :: (bl m ++ bl b)) = joined (cutB 0 (bl a ++ [10])) (far (a.size + 1 + m.size) (cutB 0 (bl b))) := by
    rw [cut_app _ a.size (bl a) (bl_length a), mc, ← cut_far _ _ _ rfl]
    congr 2; omega
  rw [e1, e3, hall]
  cases hA : cutB 0 (bl a ++ [10]) with
  | error x =>
    obtain ⟨p, e⟩ := x
    have hne := cut_err _ _ _ _ hA
    have hlt := err_lt a.size (bl a) (bl_length a) _ _ _ hA
    rw [show ∀ y, joined (.error (p, e)) y = .error (p, e) from fun _ => rfl, show told [] (.error (p, e)) = ([], (p : Int), e) from rfl]
    dsimp only
    simp only [if_neg hne, if_true, if_pos (show (p : Int) < (a.size : Int) by omega)]
    exact Ev.bind awake20 (Ev.now _)
  | ok ts =>
    have htl := told_len _ _ _ hA
    rw [List.length_append, bl_length, List.length_singleton] at htl
    cases hB : cutB 0 (bl b) with
    | error x =>
      obtain ⟨p, e⟩ := x
      have hne := cut_err _ _ _ _ hB
      rw [show joined (.ok ts) (far (a.size + 1 + m.size) (.error (p, e))) = .error (p + (a.size + 1 + m.size), e) from rfl, show told [] (.error (p, e)) = ([], (p : Int), e) from rfl, show told [] (.error (p + (a.size + 1 + m.size), e)) = ([], ((p + (a.size + 1 + m.size) : Nat) : Int), e) from rfl, show told [] (.ok ts) = (ts, 0, 0) from rfl]
      dsimp only
      simp only [if_neg hne, if_true, if_pos (show ((p + (a.size + 1 + m.size) : Nat) : Int) > (a.size : Int) by omega)]
      exact Ev.bind awake20 (Ev.now _)
    | ok us =>
      have hul := told_len _ _ _ hB
      have hur := tok_range _ _ _ hB
      rw [bl_length] at hul hur
      simp only [joined, far, told, if_true, List.nil_append]
      refine Ev.step (fun k => by rw [headgatelaw20_LexBlanks.j0]) ?_
      rw [wrap_id (x := (ts.length : Int) + (us.length : Int)) (by omega) (by omega)]
      simp only [List.length_append, List.length_map]
      rw [show (((ts.length + us.length : Nat) : Int) != (ts.length : Int) + (us.length : Int)) = false by simp]
      simp only [Bool.false_eq_true, if_false]
      exact blanks_loop a m (by omega) m9 ts us (by omega) (by omega) (fun t ht => by have := hur t ht; omega) us.length 0 (by omega) (by omega)
end Go.Proofs.YtdbccnhdblljbaaDoor.P.Blanks
