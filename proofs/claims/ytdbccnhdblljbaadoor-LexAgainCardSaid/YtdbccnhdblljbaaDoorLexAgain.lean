/- The pure statement of LexAgain: the tokens of a text, written with blanks between them, are cut into the same. No condition. -/
import Derived.Test.YtdbccnhdblljbaaDoorLexProg
import Derived.Test.YtdbccnhdblljbaaDoorF5
namespace Go.Proofs.YtdbccnhdblljbaaDoor.P.Again
open Go.RowKit Go.Proofs.YtdbccnhdblljbaaDoorW.PrintWords Go.Proofs.YtdbccnhdblljbaaDoorW.PrintLast Go.Proofs.YtdbccnhdblljbaaDoorW.PrintMore Go.Proofs.YtdbccnhdblljbaaDoor.P
set_option linter.unusedVariables false
set_option linter.unusedSimpArgs false

theorem awake20 : Ev (fun k => headgatelaw20_awake.f k) true := Ev.of (headgatelaw20_awake.mono) (k := 40) (by decide +kernel)
theorem told_len (l : List UInt8) : ∀ off, ∀ ts, cutB off l = .ok ts → ts.length ≤ l.length := by
  generalize hn : l.length = n
  induction n using Nat.strongRecOn generalizing l with
  | _ n ih =>
  intro off ts h
  cases l with
  | nil => rw [cutB_nil] at h; cases h; simp
  | cons c r =>
    rw [cutB_cons] at h
    simp only [List.length_cons] at hn
    cases hi : itemB c r with
    | skip m =>
      rw [hi] at h
      have := ih (r.drop m).length (by simp; omega) (r.drop m) rfl _ _ h
      simp at this; omega
    | tok k v s m =>
      rw [hi] at h
      simp only at h
      cases hc : cutB (off + m + 1) (r.drop m) with
      | error e => rw [hc] at h; cases h
      | ok ts' =>
        rw [hc] at h
        cases h
        have := ih (r.drop m).length (by simp; omega) (r.drop m) rfl _ _ hc
        simp at this ⊢; omega
    | bad e => rw [hi] at h; cases h
theorem cut_err (l : List UInt8) : ∀ off p e, cutB off l = .error (p, e) → e ≠ 0 := by
  generalize hn : l.length = n
  induction n using Nat.strongRecOn generalizing l with
  | _ n ih =>
  intro off p e h
  cases l with
  | nil => rw [cutB_nil] at h; cases h
  | cons c r =>
    rw [cutB_cons] at h
    simp only [List.length_cons] at hn
    cases hi : itemB c r with
    | skip m =>
      rw [hi] at h
      exact ih (r.drop m).length (by simp; omega) (r.drop m) rfl _ _ _ h
    | tok k v s m =>
      rw [hi] at h
      simp only at h
      cases hc : cutB (off + m + 1) (r.drop m) with
      | error x =>
        rw [hc] at h
        cases h
        exact ih (r.drop m).length (by simp; omega) (r.drop m) rfl _ _ _ hc
      | ok ts' => rw [hc] at h; cases h
    | bad x =>
      rw [hi] at h
      cases h
      unfold itemB at hi
      repeat' split at hi
      all_goals first | cases hi | skip
      all_goals decide
theorem rd_get (l : List Tok) (i : Nat) (t : Tok) (r : List Tok) (h : l.drop i = t :: r) : rd_T32 l (i : Int) = t ∧ i < l.length ∧ l.drop (i + 1) = r := by
  have hl : i < l.length := by
    rcases Nat.lt_or_ge i l.length with h' | h'
    · exact h'
    · rw [List.drop_eq_nil_of_le h'] at h; cases h
  have e := List.drop_eq_getElem_cons hl
  rw [e] at h
  injection h with h1 h2
  refine ⟨?_, hl, h2⟩
  unfold rd_T32
  rw [Int.toNat_natCast, List.getD_eq_getElem?_getD, List.getElem?_eq_getElem hl]
  exact h1

/-! ### a number as it is written -/
def dg (n : Nat) : UInt8 := UInt8.ofNat (48 + n % 10)
def digL (n : Nat) : List UInt8 := if n ≤ 9 then [dg n] else digL (n / 10) ++ [dg n]
termination_by n
decreasing_by omega
theorem digL_small {n : Nat} (h : n ≤ 9) : digL n = [dg n] := by rw [digL, if_pos h]
theorem digL_big {n : Nat} (h : ¬ n ≤ 9) : digL n = digL (n / 10) ++ [dg n] := by rw [digL, if_neg h]
theorem dg_nat (n : Nat) : (dg n).toNat = 48 + n % 10 := by unfold dg; simp; omega
theorem dg_digit (n : Nat) : isDigit (dg n) = true := by
  have h := dg_nat n
  unfold isDigit
  simp only [Bool.and_eq_true, decide_eq_true_eq, UInt8.le_iff_toNat_le]
  rw [h]
  exact ⟨by simp, by simp; omega⟩
theorem digL_digits (n : Nat) : ∀ c ∈ digL n, isDigit c = true := by
  induction n using Nat.strongRecOn with
  | _ n ih =>
  by_cases h : n ≤ 9
  · rw [digL_small h]; intro c hc; rw [List.mem_singleton.1 hc]; exact dg_digit n
  · rw [digL_big h]
    intro c hc
    rcases List.mem_append.1 hc with hc | hc
    · exact ih _ (by omega) c hc
    · rw [List.mem_singleton.1 hc]; exact dg_digit n
theorem digL_ne (n : Nat) : digL n ≠ [] := by
  by_cases h : n ≤ 9
  · rw [digL_small h]; simp
  · rw [digL_big h]; simp
theorem digL_len : ∀ (k n : Nat), n < 10 ^ (k + 1) → (digL n).length ≤ k + 1
  | 0, n, h => by rw [digL_small (by omega)]; simp
  | k + 1, n, h => by
    by_cases h9 : n ≤ 9
    · rw [digL_small h9]; simp
    · rw [digL_big h9, List.length_append, List.length_singleton]
      have := digL_len k (n / 10) (by rw [Nat.pow_succ] at h; omega)
      omega
theorem numB_app (l m : List UInt8) : ∀ v, numB (l ++ m) v = (numB l v).bind (numB m) := by
  induction l with
  | nil => intro v; rfl
  | cons c r ih =>
    intro v
    rw [List.cons_append, numB, numB]
    split
    · rfl
    · exact ih _
theorem numB_dig (n : Nat) (hn : n ≤ 9223372036854775807) : numB (digL n) 0 = some n := by
  induction n using Nat.strongRecOn with
  | _ n ih =>
  by_cases h : n ≤ 9
  · rw [digL_small h, numB, dg_nat, if_neg (by omega), numB]; congr 1; omega
  · rw [digL_big h, numB_app, ih _ (by omega) (by omega)]
    show numB [dg n] (n / 10) = _
    rw [numB, dg_nat, if_neg (by omega), numB]; congr 1; omega
theorem numB_le (l : List UInt8) : ∀ v n, v ≤ 9223372036854775807 → numB l v = some n → n ≤ 9223372036854775807 := by
  induction l with
  | nil => intro v n hv h; cases h; exact hv
  | cons c r ih =>
    intro v n hv h
    rw [numB] at h
    split at h
    · cases h
    · exact ih _ n (by omega) h
theorem digits_loop (n : Nat) (hn : n ≤ 9223372036854775807) : ∀ (x : ByteArray), x.size ≤ 1000 → (digL n).length + x.size ≤ 1000 → Ev (fun k => headgatelaw20_digits.l0 k (n : Int) x) (str (digL n ++ bl x)) := by
  induction n using Nat.strongRecOn with
  | _ n ih =>
  intro x hx hl
  refine Ev.step (fun k => by rw [headgatelaw20_digits.l0]) ?_
  have one : ∀ b : Int, (strOfNums [b]).size = 1 := fun b => by rw [strOfNums_size]; rfl
  by_cases h : n ≤ 9
  · simp only [if_neg (show ¬ (n : Int) > 9 by omega)]
    refine Ev.bind (Ev.now _) ?_
    simp only [one, if_pos (show 1 + x.size ≤ 9223372036854775807 by omega)]
    have e : strOfNums [wrap64 (48 + (n : Int)) % 256] ++ x = str (digL n ++ bl x) := by
      apply bl_inj
      rw [bl_append, bl_str, digL_small h, wrap_id (by omega) (by omega)]
      congr 1
      show [UInt8.ofNat ((48 + (n : Int)) % 256).toNat] = [dg n]
      unfold dg
      congr 2; omega
    rw [e]
    exact Ev.now _
  · simp only [if_pos (show (n : Int) > 9 by omega)]
    refine Ev.bind (Ev.now _) ?_
    simp only [one, if_pos (show 1 + x.size ≤ 9223372036854775807 by omega)]
    rw [digL_big h] at hl ⊢
    simp only [List.length_append, List.length_singleton] at hl
    rw [Int.tdiv_eq_ediv_of_nonneg (show (0 : Int) ≤ (n : Int) by omega), Int.tmod_eq_emod_of_nonneg (show (0 : Int) ≤ (n : Int) by omega)]
    rw [wrap_id (x := (n : Int) / 10) (by omega) (by omega), wrap_id (x := 48 + (n : Int) % 10) (by omega) (by omega), show (n : Int) / 10 = ((n / 10 : Nat) : Int) by omega]
    have e : bl (strOfNums [(48 + (n : Int) % 10) % 256] ++ x) = dg n :: bl x := by
      rw [bl_append]
      show [UInt8.ofNat ((48 + (n : Int) % 10) % 256).toNat] ++ bl x = _
      unfold dg
      rw [show ((48 + (n : Int) % 10) % 256).toNat = 48 + n % 10 by omega]
      rfl
    have := ih (n / 10) (by omega) (by omega) (strOfNums [(48 + (n : Int) % 10) % 256] ++ x) (by rw [← bl_length, e]; simp [bl_length]; omega) (by rw [← bl_length, e]; simp [bl_length]; omega)
    rw [e] at this
    rw [List.append_assoc]
    exact this
theorem digL_19 (n : Nat) (hn : n ≤ 9223372036854775807) : (digL n).length ≤ 19 := digL_len 18 n (by omega)
theorem digits_f (n : Nat) (hn : n ≤ 9223372036854775807) : Ev (fun k => headgatelaw20_digits.f k (n : Int)) (str (digL n)) := by
  have h19 := digL_19 n hn
  have := digits_loop n hn (⟨#[]⟩ : ByteArray) (by decide) (by show _ + 0 ≤ _; omega)
  rw [show bl (⟨#[]⟩ : ByteArray) = [] from rfl, List.append_nil] at this
  exact this
/-! ### a token's text -/
def txt (t : Tok) : List UInt8 := if t.f0 = 1 then digL t.f1.toNat else bl t.f2
def Sep (rest : List UInt8) : Prop := rest = [] ∨ ∃ l, rest = 32 :: l
structure Good (t : Tok) : Prop where
  lo : 0 ≤ t.f1
  hi : t.f1 ≤ 9223372036854775807
  len : (txt t).length ≤ 1000
  item : ∃ c w, txt t = c :: w ∧ ∀ rest, Sep rest → itemB c (w ++ rest) = .tok t.f0 t.f1.toNat (bl t.f2) w.length
theorem take_to (p : UInt8 → Bool) (hp : p 32 = false) (w rest : List UInt8) (hw : ∀ x ∈ w, p x = true) (hr : Sep rest) : (w ++ rest).takeWhile p = w := by
  induction w with
  | nil =>
    rcases hr with rfl | ⟨l, rfl⟩
    · rfl
    · rw [List.nil_append, List.takeWhile_cons, hp]; rfl
  | cons c r ih =>
    rw [List.cons_append, List.takeWhile_cons, if_pos (hw c (by simp)), ih (fun x hx => hw x (by simp [hx]))]
theorem digit_not {c : UInt8} (h : isDigit c = true) : ¬ isSpace c = true ∧ c ≠ 35 := by
  have h1 := isDigit_val h
  constructor
  · intro h2
    unfold isSpace at h2
    simp only [Bool.or_eq_true, beq_iff_eq] at h2
    rcases h2 with ((h2 | h2) | h2) | h2 <;> (subst h2; simp at h1)
  · intro h2; subst h2; simp at h1
theorem sign_sep (s rest : List UInt8) (c : UInt8) (r : List UInt8) (h : signB (c :: r) ≠ []) (hr : Sep rest) : signB (signB (c :: r) ++ rest) = signB (c :: r) := by
  by_cases h2 : (c :: r).take 2 = [60, 61] ∨ (c :: r).take 2 = [62, 61] ∨ (c :: r).take 2 = [60, 62]
  · have e : signB (c :: r) = (c :: r).take 2 := by unfold signB; rw [if_pos h2]
    rw [e]
    rcases h2 with h2 | h2 | h2 <;> (rw [h2]; rfl)
  · have e : signB (c :: r) = if c ∈ oneSigns then [c] else [] := by unfold signB; rw [if_neg h2]
    by_cases hc : c ∈ oneSigns
    · rw [e, if_pos hc]
      unfold signB
      rw [if_neg]
      · simp only [List.cons_append, List.nil_append, if_pos hc]
      · rcases hr with rfl | ⟨l, rfl⟩
        · simp
        · simp
    · rw [e, if_neg hc] at h; exact absurd rfl h
theorem item_good (c : UInt8) (r : List UInt8) (hr : r.length < 1000) (k : Int) (v : Nat) (s : List UInt8) (m : Nat) (off : Int) (h : itemB c r = .tok k v s m) : Good ⟨k, (v : Int), str s, off⟩ := by
  unfold itemB at h
  split at h
  · cases h
  rename_i h1
  split at h
  · cases h
  rename_i h2
  split at h
  · rename_i h3
    cases hn : numB (c :: r.takeWhile isDigit) 0 with
    | none => rw [hn] at h; cases h
    | some n =>
      rw [hn] at h
      injection h with a1 a2 a3 a4
      subst a1 a2 a3
      have hle := numB_le _ _ _ (by omega) hn
      have h19 := digL_19 n hle
      have htx : txt ⟨1, (n : Int), str [], off⟩ = digL n := by unfold txt; rw [if_pos rfl]; rfl
      refine ⟨by simp, by simp; omega, by rw [htx]; omega, ?_⟩
      rw [htx]
      have hd := digL_digits n
      have hnum := numB_dig n hle
      cases hL : digL n with
      | nil => exact absurd hL (digL_ne n)
      | cons d w =>
        rw [hL] at hd hnum
        refine ⟨d, w, rfl, fun rest hs => ?_⟩
        have hdd := hd d (by simp)
        obtain ⟨n1, n2⟩ := digit_not hdd
        unfold itemB
        rw [if_neg n1, if_neg n2, if_pos hdd, take_to isDigit (by decide) w rest (fun x hx => hd x (by simp [hx])) hs, hnum]
        rfl
  rename_i h3
  split at h
  · rename_i h4
    injection h with a1 a2 a3 a4
    subst a1 a2 a3
    have hl := takeWhile_len isPart r
    have htx : txt ⟨2, ((0 : Nat) : Int), str (c :: r.takeWhile isPart), off⟩ = c :: r.takeWhile isPart := by unfold txt; rw [if_neg (show ¬ (2 : Int) = 1 by decide)]; rfl
    refine ⟨by simp, by simp, by rw [htx]; simp; omega, ?_⟩
    rw [htx]
    refine ⟨c, _, rfl, fun rest hs => ?_⟩
    unfold itemB
    rw [if_neg h1, if_neg h2, if_neg h3, if_pos h4, take_to isPart (by decide) _ rest (takeWhile_all isPart r) hs]
    rfl
  rename_i h4
  split at h
  · cases h
  rename_i h5
  injection h with a1 a2 a3 a4
  subst a1 a2 a3
  have htx : txt ⟨3, ((0 : Nat) : Int), str (signB (c :: r)), off⟩ = signB (c :: r) := by unfold txt; rw [if_neg (show ¬ (3 : Int) = 1 by decide)]; rfl
  obtain ⟨l1, l2, l3⟩ := signB_len c r h5
  refine ⟨by simp, by simp, by rw [htx]; omega, ?_⟩
  rw [htx]
  have hsep := fun rest hs => sign_sep [] rest c r h5 hs
  cases hS : signB (c :: r) with
  | nil => exact absurd hS h5
  | cons d w =>
    rw [hS] at l3 hsep
    have hdc : d = c := by simp only [List.length_cons, List.take_succ_cons] at l3; injection l3 with e _; exact e.symm
    subst hdc
    refine ⟨d, w, rfl, fun rest hs => ?_⟩
    unfold itemB
    have := hsep rest hs
    rw [List.cons_append] at this
    rw [if_neg h1, if_neg h2, if_neg h3, if_neg h4, this, if_neg (by simp)]
    show Item.tok 3 0 (d :: w) _ = Item.tok 3 0 (d :: w) _
    rfl
theorem cut_good (l : List UInt8) : ∀ off ts, l.length ≤ 1000 → cutB off l = .ok ts → ∀ t ∈ ts, Good t := by
  generalize hn : l.length = n
  induction n using Nat.strongRecOn generalizing l with
  | _ n ih =>
  intro off ts h1000 h
  cases l with
  | nil => rw [cutB_nil] at h; cases h; simp
  | cons c r =>
    rw [cutB_cons] at h
    simp only [List.length_cons] at hn
    cases hi : itemB c r with
    | skip m =>
      rw [hi] at h
      exact ih (r.drop m).length (by simp; omega) (r.drop m) rfl _ _ (by simp; omega) h
    | tok k v s m =>
      rw [hi] at h
      simp only at h
      cases hc : cutB (off + m + 1) (r.drop m) with
      | error e => rw [hc] at h; cases h
      | ok ts' =>
        rw [hc] at h
        cases h
        intro t ht
        rcases List.mem_cons.1 ht with rfl | ht
        · exact item_good c r (by omega) k v s m off hi
        · exact ih (r.drop m).length (by simp; omega) (r.drop m) rfl _ _ (by simp; omega) hc t ht
    | bad e => rw [hi] at h; cases h
/-! ### a text of tokens -/
def tail (l : List Tok) : List UInt8 := l.flatMap fun t => 32 :: txt t
def textL : List Tok → List UInt8
  | [] => []
  | t :: r => txt t ++ tail r
def Like (a b : Tok) : Prop := a.f0 = b.f0 ∧ a.f1 = b.f1 ∧ a.f2 = b.f2
inductive Likes : List Tok → List Tok → Prop where
  | nil : Likes [] []
  | cons {a b l m} : Like a b → Likes l m → Likes (a :: l) (b :: m)
theorem tail_sep (l : List Tok) : Sep (tail l) := by
  cases l with
  | nil => exact .inl rfl
  | cons t r => exact .inr ⟨txt t ++ tail r, by simp [tail]⟩
theorem cut_tok (t : Tok) (g : Good t) (r : List Tok) (off : Nat) (us : List Tok) (h : ∀ o, ∃ us, cutB o (tail r) = .ok us ∧ Likes r us) : ∃ us, cutB off (txt t ++ tail r) = .ok us ∧ Likes (t :: r) us := by
  obtain ⟨c, w, e, hi⟩ := g.item
  rw [e, List.cons_append, cutB_cons, hi _ (tail_sep r)]
  simp only [List.drop_left]
  obtain ⟨us, h1, h2⟩ := h (off + w.length + 1)
  rw [h1]
  refine ⟨_, rfl, .cons ⟨rfl, ?_, ?_⟩ h2⟩
  · show t.f1 = _
    have := g.lo
    simp; omega
  · show t.f2 = str (bl t.f2)
    rw [str_bl]
theorem cut_tail : ∀ (l : List Tok), (∀ t ∈ l, Good t) → ∀ off, ∃ us, cutB off (tail l) = .ok us ∧ Likes l us
  | [], _, off => ⟨[], by unfold tail; rw [List.flatMap_nil, cutB_nil], .nil⟩
  | t :: r, h, off => by
    have ih := cut_tail r (fun x hx => h x (by simp [hx]))
    rw [show tail (t :: r) = 32 :: (txt t ++ tail r) by simp [tail], cutB_cons]
    rw [show itemB 32 (txt t ++ tail r) = .skip 0 by unfold itemB; rw [if_pos (by decide)]]
    simp only [List.drop_zero]
    exact cut_tok t (h t (by simp)) r _ [] ih
theorem cut_text (l : List Tok) (h : ∀ t ∈ l, Good t) : ∃ us, cutB 0 (textL l) = .ok us ∧ Likes l us := by
  cases l with
  | nil => exact ⟨[], cutB_nil 0, .nil⟩
  | cons t r => exact cut_tok t (h t (by simp)) r 0 [] (cut_tail r fun x hx => h x (by simp [hx]))
theorem likes_len {l m : List Tok} (h : Likes l m) : l.length = m.length := by
  induction h with
  | nil => rfl
  | cons _ _ ih => simp [ih]
theorem likes_drop {l m : List Tok} (h : Likes l m) : ∀ i, Likes (l.drop i) (m.drop i) := by
  induction h with
  | nil => intro i; simp; exact .nil
  | cons h1 h2 ih =>
    intro i
    cases i with
    | zero => exact .cons h1 h2
    | succ i => exact ih i
theorem text_loop (l : List Tok) (hl : l.length ≤ 1000) (hg : ∀ t ∈ l, Good t) : ∀ (d i : Nat) (acc : ByteArray), l.length - i ≤ d → i ≤ l.length → acc.size ≤ i * 1001 → 0 < i →
    Ev (fun k => headgatelaw20_Text.l0 k l acc (i : Int)) (str (bl acc ++ tail (l.drop i))) := by
  intro d
  have fin : ∀ (i : Nat) (acc : ByteArray), i = l.length → Ev (fun k => headgatelaw20_Text.l0 k l acc (i : Int)) (str (bl acc ++ tail (l.drop i))) := by
    intro i acc hi
    subst hi
    rw [List.drop_length, show tail [] = [] from rfl, List.append_nil, str_bl]
    refine Ev.step (fun k => by rw [headgatelaw20_Text.l0]) ?_
    simp only [if_neg (show ¬ (l.length : Int) < (l.length : Int) by omega)]
    exact Ev.now _
  induction d with
  | zero => intro i acc hd hi ha h0; exact fin i acc (by omega)
  | succ d ih =>
    intro i acc hd hi ha h0
    by_cases hin : i = l.length
    · exact fin i acc hin
    · cases hdr : l.drop i with
      | nil => have := congrArg List.length hdr; simp at this; omega
      | cons t r =>
      obtain ⟨hr, hlt, hr'⟩ := rd_get l i t r hdr
      have g : Good t := hg t (List.mem_of_mem_drop (hdr ▸ List.mem_cons_self))
      have glo := g.lo
      have ghi := g.hi
      have glen := g.len
      have sp : (acc ++ (⟨#[32]⟩ : ByteArray)).size = acc.size + 1 := by rw [ByteArray.size_append]; rfl
      have step : ∀ x : ByteArray, bl x = txt t → Ev (fun k => headgatelaw20_Text.l0 k l ((acc ++ (⟨#[32]⟩ : ByteArray)) ++ x) (wrap64 ((i : Int) + 1))) (str (bl acc ++ tail (t :: r))) := by
        intro x hx
        have hxs : x.size = (txt t).length := by rw [← hx, bl_length]
        have := ih (i + 1) ((acc ++ (⟨#[32]⟩ : ByteArray)) ++ x) (by omega) (by omega) (by rw [ByteArray.size_append, sp, hxs]; omega) (by omega)
        rw [wrap_id (by omega) (by omega), show (i : Int) + 1 = ((i + 1 : Nat) : Int) by omega]
        rw [hr', bl_append, bl_append, hx] at this
        rw [show bl acc ++ tail (t :: r) = bl acc ++ bl (⟨#[32]⟩ : ByteArray) ++ txt t ++ tail r by simp [tail, bl]]
        exact this
      refine Ev.step (fun k => by rw [headgatelaw20_Text.l0]) ?_
      simp only [if_pos (show (i : Int) < (l.length : Int) by omega), if_pos (show (i : Int) > 0 by omega), if_pos (show acc.size + 1 ≤ 9223372036854775807 by omega), if_pos (show (0 : Int) ≤ (i : Int) by omega), hr]
      by_cases h1 : t.f0 = 1
      · simp only [if_pos h1]
        have htx : txt t = digL t.f1.toNat := by unfold txt; rw [if_pos h1]
        have := digits_f t.f1.toNat (by omega)
        rw [show ((t.f1.toNat : Nat) : Int) = t.f1 by omega] at this
        refine Ev.bind this ?_
        have hz : (str (digL t.f1.toNat)).size ≤ 1000 := by rw [str_size, ← htx]; exact glen
        simp only [sp, if_pos (show acc.size + 1 + (str (digL t.f1.toNat)).size ≤ 9223372036854775807 by omega)]
        exact step _ (by rw [bl_str, htx])
      · simp only [if_neg h1]
        have htx : txt t = bl t.f2 := by unfold txt; rw [if_neg h1]
        have hz : t.f2.size ≤ 1000 := by rw [← bl_length, ← htx]; exact glen
        simp only [sp, if_pos (show acc.size + 1 + t.f2.size ≤ 9223372036854775807 by omega)]
        exact step _ htx.symm
theorem text_f (l : List Tok) (hl : l.length ≤ 1000) (hg : ∀ t ∈ l, Good t) : Ev (fun k => headgatelaw20_Text.f k l) (str (textL l)) := by
  unfold headgatelaw20_Text.f
  refine Ev.step (fun k => by rw [headgatelaw20_Text.l0]) ?_
  cases l with
  | nil =>
    simp only [List.length_nil, if_neg (show ¬ (0 : Int) < ((0 : Nat) : Int) by decide)]
    exact Ev.now _
  | cons t r =>
    obtain ⟨hr, hlt, hr'⟩ := rd_get (t :: r) 0 t r rfl
    have g : Good t := hg t (by simp)
    have glo := g.lo
    have ghi := g.hi
    have glen := g.len
    have sp : (⟨#[]⟩ : ByteArray).size = 0 := rfl
    have step : ∀ x : ByteArray, bl x = txt t → Ev (fun k => headgatelaw20_Text.l0 k (t :: r) ((⟨#[]⟩ : ByteArray) ++ x) (wrap64 (0 + 1))) (str (textL (t :: r))) := by
      intro x hx
      have hxs : x.size = (txt t).length := by rw [← hx, bl_length]
      have := text_loop (t :: r) hl hg (t :: r).length 1 ((⟨#[]⟩ : ByteArray) ++ x) (by omega) (by simp) (by rw [ByteArray.size_append, sp, hxs]; omega) (by omega)
      rw [bl_append, hx, show bl (⟨#[]⟩ : ByteArray) = [] from rfl, List.nil_append] at this
      rw [show wrap64 (0 + 1) = ((1 : Nat) : Int) from wrap_id (by omega) (by omega)]
      exact this
    have hr0 : rd_T32 (t :: r) 0 = t := hr
    simp only [if_pos (show (0 : Int) < ((t :: r).length : Int) by simp), if_neg (show ¬ (0 : Int) > 0 by decide), if_pos (show (0 : Int) ≤ (0 : Int) by decide), hr0]
    by_cases h1 : t.f0 = 1
    · simp only [if_pos h1]
      have htx : txt t = digL t.f1.toNat := by unfold txt; rw [if_pos h1]
      have := digits_f t.f1.toNat (by omega)
      rw [show ((t.f1.toNat : Nat) : Int) = t.f1 by omega] at this
      refine Ev.bind this ?_
      have hz : (str (digL t.f1.toNat)).size ≤ 1000 := by rw [str_size, ← htx]; exact glen
      simp only [sp, if_pos (show 0 + (str (digL t.f1.toNat)).size ≤ 9223372036854775807 by omega)]
      exact step _ (by rw [bl_str, htx])
    · simp only [if_neg h1]
      have htx : txt t = bl t.f2 := by unfold txt; rw [if_neg h1]
      have hz : t.f2.size ≤ 1000 := by rw [← bl_length, ← htx]; exact glen
      simp only [sp, if_pos (show 0 + t.f2.size ≤ 9223372036854775807 by omega)]
      exact step _ htx.symm
theorem again_loop (l m : List Tok) (hl : l.length ≤ 1000) (h : Likes l m) : ∀ (d i : Nat), l.length - i ≤ d → i ≤ l.length → Ev (fun k => headgatelaw20_LexAgain.l0 k l m (i : Int)) true := by
  have hlm := likes_len h
  intro d
  have fin : ∀ i : Nat, i = l.length → Ev (fun k => headgatelaw20_LexAgain.l0 k l m (i : Int)) true := by
    intro i hi
    subst hi
    refine Ev.step (fun k => by rw [headgatelaw20_LexAgain.l0]) ?_
    simp only [if_neg (show ¬ (l.length : Int) < (l.length : Int) by omega)]
    exact Ev.bind awake20 (Ev.now _)
  induction d with
  | zero => intro i hd hi; exact fin i (by omega)
  | succ d ih =>
    intro i hd hi
    by_cases hin : i = l.length
    · exact fin i hin
    · have hk := likes_drop h i
      cases hdl : l.drop i with
      | nil => have := congrArg List.length hdl; simp at this; omega
      | cons t r =>
      cases hdm : m.drop i with
      | nil => have := congrArg List.length hdm; simp at this; omega
      | cons u q =>
      rw [hdl, hdm] at hk
      cases hk with
      | cons e _ =>
      obtain ⟨e1, e2, e3⟩ := e
      obtain ⟨g1, _, _⟩ := rd_get l i t r hdl
      obtain ⟨g2, _, _⟩ := rd_get m i u q hdm
      refine Ev.step (fun k => by rw [headgatelaw20_LexAgain.l0]) ?_
      simp only [if_pos (show (i : Int) < (l.length : Int) by omega), if_pos (show (0 : Int) ≤ (i : Int) by omega), if_pos (show (i : Int) < (m.length : Int) by omega), g1, g2, e1, e2, e3, if_true]
      rw [wrap_id (by omega) (by omega), show (i : Int) + 1 = ((i + 1 : Nat) : Int) by omega]
      exact ih (i + 1) (by omega) (by omega)
theorem LexAgain : headgatelaw20_LexAgain.Pure := by
  intro s hs
  apply Ev.rounds
  unfold headgatelaw20_LexAgain.f
  have hj : ∀ x : ByteArray, x.size ≤ 1000 → Ev (fun k => headgatelaw20_LexAgain.j0 k x) true := by
    intro x hx
    refine Ev.step (fun k => by rw [headgatelaw20_LexAgain.j0]) ?_
    refine Ev.bind (prog_cut x) ?_
    rw [if_neg (show ¬ x.size > 4096 by omega)]
    cases hc : cutB 0 (bl x) with
    | error e =>
      obtain ⟨p, e⟩ := e
      have hne := cut_err _ _ _ _ hc
      rw [show told [] (.error (p, e)) = ([], (p : Int), e) from rfl]
      dsimp only
      simp only [if_neg hne, List.length_nil, if_pos (show ((0 : Nat) : Int) = 0 from rfl)]
      exact Ev.bind awake20 (Ev.now _)
    | ok ts =>
      have hl := told_len _ _ _ hc
      rw [bl_length] at hl
      have hg := cut_good (bl x) 0 ts (by rw [bl_length]; exact hx) hc
      rw [show told [] (.ok ts) = (ts, 0, 0) from rfl]
      dsimp only
      simp only [if_true]
      refine Ev.bind (text_f ts (by omega) hg) ?_
      refine Ev.bind (prog_cut _) ?_
      by_cases h4 : (str (textL ts)).size > 4096
      · rw [if_pos h4]
        dsimp only
        simp only [if_pos (show ((str (textL ts)).size : Int) > 4096 by omega), if_true]
        exact Ev.bind awake20 (Ev.now _)
      · rw [if_neg h4, bl_str]
        obtain ⟨us, h1, h2⟩ := cut_text ts hg
        have hlen := likes_len h2
        rw [h1, show told [] (.ok us) = (us, 0, 0) from rfl]
        dsimp only
        simp only [if_neg (show ¬ ((str (textL ts)).size : Int) > 4096 by omega), if_true]
        refine Ev.step (fun k => by rw [headgatelaw20_LexAgain.j1]) ?_
        rw [show (((ts.length : Nat) : Int) != (us.length : Int)) = false by simp; omega]
        simp only [Bool.false_eq_true, if_false]
        exact again_loop ts us (by omega) h2 ts.length 0 (by omega) (by omega)
  by_cases h : (s.size : Int) > 1000
  · simp only [if_pos h, if_pos (show (1000 : Int) ≤ (s.size : Int) by omega)]
    exact hj _ (by rw [← bl_length, bl_extract]; simp [bl_length]; omega)
  · simp only [if_neg h]
    exact hj _ (by omega)
end Go.Proofs.YtdbccnhdblljbaaDoor.P.Again
