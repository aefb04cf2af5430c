/- What a text is cut into, said on lists of bytes; the program's cutting and the document's are both that. No condition. -/
import Derived.Test.YtdbccnhdblljbaaDoorF19
import Derived.Test.YtdbccnhdblljbaaDoorF20
import Derived.Test.YtdbccnhdblljbaaDoorF21
import Derived.Test.YtdbccnhdblljbaaDoorF22
import Derived.Lib.Strings
import Derived.Lib.Bytes
namespace Go.Proofs.YtdbccnhdblljbaaDoor.P
open Go.RowKit Go.Proofs.YtdbccnhdblljbaaDoorW.PrintWords Go.Proofs.YtdbccnhdblljbaaDoorW.PrintLast Go.Proofs.YtdbccnhdblljbaaDoorW.PrintMore
set_option linter.unusedVariables false
set_option linter.unusedSimpArgs false

/-! ### bytes and lists -/
abbrev Tok := S32
def bl (s : ByteArray) : List UInt8 := s.data.toList
theorem bl_length (s : ByteArray) : (bl s).length = s.size := by unfold bl; exact data_length s
theorem toList_bl (s : ByteArray) : s.toList = bl s := Lib.toList_data s
theorem bl_extract (s : ByteArray) (a b : Nat) : bl (s.extract a b) = ((bl s).drop a).take (b - a) := Lib.extract_data s a b
theorem bl_tail (s : ByteArray) (a : Nat) : bl (s.extract a s.size) = (bl s).drop a := by
  rw [bl_extract, List.take_of_length_le]; rw [List.length_drop, bl_length]; exact Nat.le_refl _
theorem bl_append (s t : ByteArray) : bl (s ++ t) = bl s ++ bl t := by unfold bl; simp
theorem bl_inj {s t : ByteArray} (h : bl s = bl t) : s = t := by
  apply ByteArray.ext; exact Array.toList_inj.1 h
theorem bl_mk (l : List UInt8) : bl ⟨l.toArray⟩ = l := rfl
def str (l : List UInt8) : ByteArray := ⟨l.toArray⟩
theorem bl_str (l : List UInt8) : bl (str l) = l := rfl
theorem str_bl (s : ByteArray) : str (bl s) = s := bl_inj (bl_str _)
theorem str_size (l : List UInt8) : (str l).size = l.length := by rw [← bl_length, bl_str]
theorem bt_nat (s : ByteArray) (i : Nat) : bt s (i : Int) = (((bl s).getD i 0).toNat : Int) := by
  unfold bt
  by_cases h : i < s.size
  · rw [dif_pos (by simpa using h)]
    simp only [Int.toNat_natCast]
    rw [List.getD_eq_getElem?_getD, List.getElem?_eq_getElem (by rw [bl_length]; exact h)]
    rfl
  · rw [dif_neg (by simpa using h), List.getD_eq_getElem?_getD, List.getElem?_eq_none (by rw [bl_length]; omega)]
    rfl
theorem bt_cons {s : ByteArray} {c : UInt8} {r : List UInt8} {i : Nat} (h : (bl s).drop i = c :: r) : bt s (i : Int) = (c.toNat : Int) ∧ i < s.size ∧ (bl s).drop (i + 1) = r := by
  have hl : i < (bl s).length := by
    rcases Nat.lt_or_ge i (bl s).length with h' | h'
    · exact h'
    · rw [List.drop_eq_nil_of_le h'] at h; cases h
  have e := List.drop_eq_getElem_cons hl
  rw [e] at h
  injection h with h1 h2
  refine ⟨?_, by rw [bl_length] at hl; exact hl, h2⟩
  rw [bt_nat, List.getD_eq_getElem?_getD, List.getElem?_eq_getElem hl, h1]
  rfl

/-! ### what stands at the head of a text -/
def isSpace (c : UInt8) : Bool := c == 32 || c == 9 || c == 10 || c == 13
def isDigit (c : UInt8) : Bool := decide (48 ≤ c) && decide (c ≤ 57)
def isLetter (c : UInt8) : Bool := (decide (97 ≤ c) && decide (c ≤ 122)) || c == 95
def isPart (c : UInt8) : Bool := isLetter c || isDigit c
def isOther (c : UInt8) : Bool := c != 10
/-- The value of digits behind those that came to n; none: it is too great. -/
def numB : List UInt8 → Nat → Option Nat
  | [], n => some n
  | c :: r, n => if 10 * n + (c.toNat - 48) > 9223372036854775807 then none else numB r (10 * n + (c.toNat - 48))
def oneSigns : List UInt8 := [43, 45, 42, 47, 37, 61, 60, 62, 40, 41, 44, 58, 59, 123, 125, 91, 93]
/-- The sign with which a text begins. -/
def signB (l : List UInt8) : List UInt8 :=
  if l.take 2 = [60, 61] ∨ l.take 2 = [62, 61] ∨ l.take 2 = [60, 62] then l.take 2
  else match l with
    | [] => []
    | c :: _ => if c ∈ oneSigns then [c] else []
inductive Item where
  | skip (more : Nat)
  | tok (kind : Int) (n : Nat) (s : List UInt8) (more : Nat)
  | bad (e : Int)
def itemB (c : UInt8) (r : List UInt8) : Item :=
  if isSpace c then .skip 0
  else if c = 35 then .skip (r.takeWhile isOther).length
  else if isDigit c then (match numB (c :: r.takeWhile isDigit) 0 with | some n => .tok 1 n [] (r.takeWhile isDigit).length | none => .bad 6)
  else if isLetter c then .tok 2 0 (c :: r.takeWhile isPart) (r.takeWhile isPart).length
  else if signB (c :: r) = [] then .bad 2 else .tok 3 0 (signB (c :: r)) ((signB (c :: r)).length - 1)
/-- A text's tokens (their places from a number on), or where it may not be, and why. -/
def cutB (off : Nat) (l : List UInt8) : Except (Nat × Int) (List Tok) :=
  match l with
  | [] => .ok []
  | c :: r =>
    match itemB c r with
    | .skip m => cutB (off + m + 1) (r.drop m)
    | .tok k n s m => (match cutB (off + m + 1) (r.drop m) with | .ok ts => .ok (⟨k, (n : Int), str s, (off : Int)⟩ :: ts) | .error e => .error e)
    | .bad e => .error (off, e)
termination_by l.length
decreasing_by all_goals (simp only [List.length_cons, List.length_drop]; omega)
/-- As the functions tell it, behind tokens that came before. -/
def told (acc : List Tok) : Except (Nat × Int) (List Tok) → List Tok × Int × Int
  | .ok ts => (acc ++ ts, 0, 0)
  | .error (p, e) => ([], (p : Int), e)
theorem told_cons (acc : List Tok) (t : Tok) (x : Except (Nat × Int) (List Tok)) : told acc (match x with | .ok ts => .ok (t :: ts) | .error e => .error e) = told (acc ++ [t]) x := by
  cases x <;> simp [told]
theorem cutB_nil (off : Nat) : cutB off [] = .ok [] := by unfold cutB; rfl
theorem cutB_cons (off : Nat) (c : UInt8) (r : List UInt8) : cutB off (c :: r) = match itemB c r with
    | .skip m => cutB (off + m + 1) (r.drop m)
    | .tok k n s m => (match cutB (off + m + 1) (r.drop m) with | .ok ts => .ok (⟨k, (n : Int), str s, (off : Int)⟩ :: ts) | .error e => .error e)
    | .bad e => .error (off, e) := by
  rw [cutB]

/-! ### the bytes' kinds, as numbers -/
theorem u8eq (c : UInt8) (n : Nat) (hn : n < 256) : (c = UInt8.ofNat n) ↔ (c.toNat : Int) = n := by
  constructor
  · rintro rfl; simp; omega
  · intro h; apply UInt8.toNat_inj.1; simp; omega
theorem space_eq (c : UInt8) : lexSpace (c.toNat : Int) = isSpace c := by
  unfold lexSpace isSpace
  have h := c.toNat_lt
  rw [Bool.eq_iff_iff]
  simp only [Bool.or_eq_true, beq_iff_eq]
  rw [show (32 : UInt8) = UInt8.ofNat 32 from rfl, show (9 : UInt8) = UInt8.ofNat 9 from rfl, show (10 : UInt8) = UInt8.ofNat 10 from rfl, show (13 : UInt8) = UInt8.ofNat 13 from rfl]
  rw [u8eq c 32 (by omega), u8eq c 9 (by omega), u8eq c 10 (by omega), u8eq c 13 (by omega)]
  simp
theorem other_eq (c : UInt8) : lexOther (c.toNat : Int) = isOther c := by
  unfold lexOther isOther
  rw [Bool.eq_iff_iff]
  simp only [bne_iff_ne, ne_eq]
  rw [show (10 : UInt8) = UInt8.ofNat 10 from rfl, u8eq c 10 (by omega)]
  simp
theorem digit_eq (c : UInt8) : lexDigit (c.toNat : Int) = isDigit c := by
  unfold lexDigit isDigit
  rw [Bool.eq_iff_iff]
  simp only [Bool.and_eq_true, decide_eq_true_eq, UInt8.le_iff_toNat_le]
  simp
  omega
theorem letter_eq (c : UInt8) : lexLetter (c.toNat : Int) = isLetter c := by
  unfold lexLetter isLetter
  rw [Bool.eq_iff_iff]
  simp only [Bool.or_eq_true, Bool.and_eq_true, decide_eq_true_eq, UInt8.le_iff_toNat_le, beq_iff_eq]
  rw [show (95 : UInt8) = UInt8.ofNat 95 from rfl, u8eq c 95 (by omega)]
  simp
  omega
theorem part_eq (c : UInt8) : lexPart (c.toNat : Int) = isPart c := by unfold lexPart isPart; rw [letter_eq, digit_eq]
end Go.Proofs.YtdbccnhdblljbaaDoor.P
