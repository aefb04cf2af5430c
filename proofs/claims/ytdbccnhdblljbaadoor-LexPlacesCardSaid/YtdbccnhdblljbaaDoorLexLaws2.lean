/- The pure statements of LexOrder and LexPlaces. No condition. -/
import Derived.Test.YtdbccnhdblljbaaDoorLexLaws
namespace Go.Proofs.YtdbccnhdblljbaaDoor.P
open Go.RowKit Go.Proofs.YtdbccnhdblljbaaDoorW.PrintWords Go.Proofs.YtdbccnhdblljbaaDoorW.PrintLast Go.Proofs.YtdbccnhdblljbaaDoorW.PrintMore
set_option linter.unusedVariables false
set_option linter.unusedSimpArgs false

/-! ### tokens in order -/
def OrdB (s : ByteArray) : Nat → List Tok → Prop
  | _, [] => True
  | e, t :: r => ∃ p : Nat, t.f3 = (p : Int) ∧ e ≤ p ∧ p < s.size ∧ 1 ≤ t.f0 ∧ t.f0 ≤ 3 ∧ (t.f0 = 1 ↔ bl t.f2 = []) ∧ p + max 1 t.f2.size ≤ s.size ∧
      (bl t.f2 ≠ [] → bl t.f2 = ((bl s).drop p).take t.f2.size) ∧ (bl t.f2 = [] → ∃ c : UInt8, bt s (p : Int) = (c.toNat : Int) ∧ isDigit c = true) ∧ OrdB s (p + max 1 t.f2.size) r
theorem ord_cut (s : ByteArray) : ∀ (n off : Nat) (ts : List Tok) (e : Nat), s.size - off ≤ n → off ≤ s.size → cutB off ((bl s).drop off) = .ok ts → e ≤ off → OrdB s e ts := by
  intro n
  induction n using Nat.strongRecOn with
  | _ n ih =>
  intro off ts e hn ho h he
  cases hd : (bl s).drop off with
  | nil => rw [hd, cutB_nil] at h; cases h; trivial
  | cons c r =>
    obtain ⟨hb, hlt, hr⟩ := bt_cons hd
    have hrl : r.length = s.size - off - 1 := by have := congrArg List.length hd; rw [List.length_drop, bl_length] at this; simp at this; omega
    rw [hd, cutB_cons] at h
    have dr : ∀ m, r.drop m = (bl s).drop (off + m + 1) := fun m => by rw [← hr, List.drop_drop]; congr 1; omega
    unfold itemB at h
    by_cases h1 : isSpace c = true
    · rw [if_pos h1] at h
      simp only at h
      rw [dr] at h
      exact ih (s.size - (off + 0 + 1)) (by omega) _ ts e (by omega) (by omega) h (by omega)
    · rw [if_neg h1] at h
      by_cases h2 : c = 35
      · rw [if_pos h2] at h
        simp only at h
        have hl := takeWhile_len isOther r
        rw [dr] at h
        exact ih (s.size - (off + (r.takeWhile isOther).length + 1)) (by omega) _ ts e (by omega) (by omega) h (by omega)
      · rw [if_neg h2] at h
        by_cases h3 : isDigit c = true
        · rw [if_pos h3] at h
          have hl := takeWhile_len isDigit r
          cases hnum : numB (c :: r.takeWhile isDigit) 0 with
          | none => rw [hnum] at h; simp at h
          | some v =>
            rw [hnum] at h
            simp only at h
            rw [dr] at h
            cases hc : cutB (off + (r.takeWhile isDigit).length + 1) ((bl s).drop (off + (r.takeWhile isDigit).length + 1)) with
            | error x => rw [hc] at h; cases h
            | ok ts' =>
              rw [hc] at h
              cases h
              refine ⟨off, rfl, he, hlt, by simp, by simp, by simp [bl_str], by rw [str_size]; simp; omega, fun h => absurd (bl_str []) h, fun _ => ⟨c, hb, h3⟩, ?_⟩
              rw [str_size]
              exact ih (s.size - (off + (r.takeWhile isDigit).length + 1)) (by omega) _ ts' _ (by omega) (by omega) hc (by simp)
        · rw [if_neg h3] at h
          by_cases h4 : isLetter c = true
          · rw [if_pos h4] at h
            have hl := takeWhile_len isPart r
            simp only at h
            rw [dr] at h
            cases hc : cutB (off + (r.takeWhile isPart).length + 1) ((bl s).drop (off + (r.takeWhile isPart).length + 1)) with
            | error x => rw [hc] at h; cases h
            | ok ts' =>
              rw [hc] at h
              cases h
              refine ⟨off, rfl, he, hlt, by simp, by simp, by simp [bl_str], by rw [str_size]; simp; omega, fun _ => ?_, fun h => absurd h (by simp [bl_str]), ?_⟩
              · rw [bl_str, str_size, hd, List.length_cons, List.take_succ_cons, takeWhile_take]
              · rw [str_size]
                exact ih (s.size - (off + (r.takeWhile isPart).length + 1)) (by omega) _ ts' _ (by omega) (by omega) hc (by simp; omega)
          · rw [if_neg h4] at h
            by_cases h5 : signB (c :: r) = []
            · rw [if_pos h5] at h; simp at h
            · rw [if_neg h5] at h
              obtain ⟨g1, g2, g3⟩ := signB_len c r h5
              simp only at h
              rw [dr] at h
              cases hc : cutB (off + ((signB (c :: r)).length - 1) + 1) ((bl s).drop (off + ((signB (c :: r)).length - 1) + 1)) with
              | error x => rw [hc] at h; cases h
              | ok ts' =>
                rw [hc] at h
                cases h
                refine ⟨off, rfl, he, hlt, by simp, by simp, by simp [bl_str, h5], by rw [str_size]; omega, fun _ => ?_, fun h => absurd h (by simp [bl_str, h5]), ?_⟩
                · rw [bl_str, str_size, hd, g3]
                · rw [str_size]
                  exact ih (s.size - (off + ((signB (c :: r)).length - 1) + 1)) (by omega) _ ts' _ (by omega) (by omega) hc (by omega)
theorem mx_nat (a b : Nat) : mx (a : Int) (b : Int) = ((max a b : Nat) : Int) := by unfold mx; split <;> omega
theorem rd_get (l : List Tok) (i : Nat) (t : Tok) (r : List Tok) (h : l.drop i = t :: r) : rd_T32 l (i : Int) = t ∧ i < l.length ∧ l.drop (i + 1) = r := by
  have hl : i < l.length := by
    rcases Nat.lt_or_ge i l.length with h' | h'
    · exact h'
    · rw [List.drop_eq_nil_of_le h'] at h; cases h
  have e := List.drop_eq_getElem_cons hl
  rw [e] at h
  injection h with h1 h2
  refine ⟨?_, hl, h2⟩
  unfold rd_T32
  rw [Int.toNat_natCast, List.getD_eq_getElem?_getD, List.getElem?_eq_getElem hl]
  exact h1
theorem order_loop (s : ByteArray) (hs : s.size ≤ 140737488351232) (l : List Tok) (hl : l.length ≤ 4096) : ∀ (n i e : Nat), l.length - i ≤ n → i ≤ l.length → OrdB s e (l.drop i) → e ≤ s.size →
    Ev (fun k => headgatelaw20_LexOrder.l0 k s l (e : Int) (i : Int)) true := by
  intro n
  induction n with
  | zero =>
    intro i e hn hi ho he
    refine Ev.step (fun k => by rw [headgatelaw20_LexOrder.l0]) ?_
    simp only [if_neg (show ¬ (i : Int) < (l.length : Int) by omega)]
    exact Ev.bind awake20 (Ev.now _)
  | succ n ih =>
    intro i e hn hi ho he
    refine Ev.step (fun k => by rw [headgatelaw20_LexOrder.l0]) ?_
    cases hd : l.drop i with
    | nil =>
      have := congrArg List.length hd
      rw [List.length_drop] at this
      simp at this
      simp only [if_neg (show ¬ (i : Int) < (l.length : Int) by omega)]
      exact Ev.bind awake20 (Ev.now _)
    | cons t r =>
      obtain ⟨ht, hlt, hr⟩ := rd_get l i t r hd
      rw [hd] at ho
      obtain ⟨p, g1, g2, g3, g4, g5, g6, g7, g8, g9, g10⟩ := ho
      simp only [if_pos (show (i : Int) < (l.length : Int) by omega), if_pos (show (0 : Int) ≤ (i : Int) by omega), ht, g1,
        if_neg (show ¬ (p : Int) < (e : Int) by omega), if_neg (show ¬ (p : Int) ≥ (s.size : Int) by omega), if_neg (show ¬ t.f0 < 1 by omega), if_neg (show ¬ t.f0 > 3 by omega)]
      have hb : ((t.f0 == 1) != (t.f2.toList == ([] : List UInt8))) = false := by
        rw [toList_bl]
        by_cases h : t.f0 = 1
        · rw [h, g6.1 h]; rfl
        · have h' : ¬ bl t.f2 = [] := fun h'' => h (g6.2 h'')
          rw [show (t.f0 == 1) = false from beq_eq_false_iff_ne.2 h, show (bl t.f2 == []) = false from beq_eq_false_iff_ne.2 h']; rfl
      rw [hb]
      have hend : wrap64 ((p : Int) + mx 1 (t.f2.size : Int)) = ((p + max 1 t.f2.size : Nat) : Int) := by
        have := mx_nat 1 t.f2.size
        rw [show ((1 : Nat) : Int) = 1 from rfl] at this
        rw [this, wrap_id (by omega) (by omega)]
        omega
      refine Ev.step (fun k => by rw [headgatelaw20_LexOrder.j2]) ?_
      simp only [Bool.false_eq_true, if_false, hend, if_neg (show ¬ ((p + max 1 t.f2.size : Nat) : Int) > (s.size : Int) by omega), toList_bl]
      have next : Ev (fun k => headgatelaw20_LexOrder.l0 k s l ((p + max 1 t.f2.size : Nat) : Int) (wrap64 ((i : Int) + 1))) true := by
        rw [wrap_id (by omega) (by omega), show (i : Int) + 1 = ((i + 1 : Nat) : Int) by omega]
        exact ih (i + 1) _ (by omega) (by omega) (by rw [hr]; exact g10) (by omega)
      by_cases h : bl t.f2 = []
      · obtain ⟨c, hc, hcd⟩ := g9 h
        have hv := isDigit_val hcd
        simp only [if_pos h, if_pos (show (0 : Int) ≤ (p : Int) by omega), if_pos (show (p : Int) < (s.size : Int) by omega), hc, if_neg (show ¬ (c.toNat : Int) < 48 by omega), if_neg (show ¬ (c.toNat : Int) > 57 by omega)]
        exact next
      · have hz : 1 ≤ t.f2.size := by rw [← bl_length]; cases hh : bl t.f2 with
          | nil => exact absurd hh h
          | cons x y => simp
        simp only [if_neg h, if_pos (show (0 : Int) ≤ (p : Int) by omega), if_pos (show (p : Int) ≤ ((p + max 1 t.f2.size : Nat) : Int) by omega), if_pos (show ((p + max 1 t.f2.size : Nat) : Int) ≤ (s.size : Int) by omega)]
        rw [bl_extract, Int.toNat_natCast, Int.toNat_natCast, Nat.add_sub_cancel_left, show max 1 t.f2.size = t.f2.size by omega, ← g8 h]
        simp only [if_true]
        rw [show max 1 t.f2.size = t.f2.size by omega] at next
        exact next
theorem LexOrder : headgatelaw20_LexOrder.Pure := by
  intro s hs
  apply Ev.rounds
  unfold headgatelaw20_LexOrder.f
  have hj : ∀ x : ByteArray, x.size ≤ 140737488351232 → Ev (fun k => headgatelaw20_LexOrder.j0 k x) true := by
    intro x hx
    refine Ev.step (fun k => by rw [headgatelaw20_LexOrder.j0]) ?_
    have hp := prog_cut x
    have hl := cutT_len x
    unfold cutT at hl
    generalize hT : (if x.size > 4096 then _ else _ : List _ × Int × Int) = T at hp
    obtain ⟨ts, pl, er⟩ := T
    refine Ev.bind hp ?_
    dsimp only
    by_cases he : er = 0
    · subst he
      split at hT
      · injection hT with _ hT2; injection hT2 with _ hT3; exact absurd hT3 (by decide)
      · rename_i h4
        rw [if_neg h4] at hl
        cases hc : cutB 0 (bl x) with
        | error e =>
          obtain ⟨p, e⟩ := e
          rw [hc] at hT
          have hne : e ≠ 0 := cut_err _ _ _ _ hc
          injection hT with _ hT2; injection hT2 with _ hT3; exact absurd hT3 hne
        | ok ts' =>
          rw [hc] at hl hT
          simp only [told, List.nil_append] at hl hT
          injection hT with hT1 _
          subst hT1
          simp only [if_true]
          have := ord_cut x x.size 0 ts' 0 (by omega) (by omega) (by simpa using hc) (by omega)
          exact order_loop x hx ts' hl ts'.length 0 0 (by omega) (by omega) (by simpa using this) (by omega)
    · have hts : ts = [] := by
        split at hT
        · injection hT with h1 _; exact h1.symm
        · cases hc : cutB 0 (bl x) with
          | error e => obtain ⟨p, e⟩ := e; rw [hc] at hT; injection hT with h1 _; exact h1.symm
          | ok ts' => rw [hc] at hT; injection hT with _ hT2; injection hT2 with _ hT3; exact absurd hT3.symm he
      subst hts
      simp only [if_neg he, List.length_nil, if_pos (show ((0 : Nat) : Int) = 0 from rfl)]
      exact Ev.bind awake20 (Ev.now _)
  by_cases h : (s.size : Int) > 6000
  · simp only [if_pos h, if_pos (show (6000 : Int) ≤ (s.size : Int) by omega)]
    exact hj _ (by rw [← bl_length, bl_extract]; simp [bl_length]; omega)
  · simp only [if_neg h]
    exact hj _ hs
/-! ### places -/
def lines (s : ByteArray) (i : Nat) : Nat := ((bl s).take i).count 10
theorem data_get (s : ByteArray) (k : Nat) (c : UInt8) (r : List UInt8) (h : (bl s).drop k = c :: r) : s.data[k]! = c := by
  have hl : k < (bl s).length := by
    rcases Nat.lt_or_ge k (bl s).length with h' | h'
    · exact h'
    · rw [List.drop_eq_nil_of_le h'] at h; cases h
  have e := List.drop_eq_getElem_cons hl
  rw [e] at h
  injection h with h1 h2
  have hk : k < s.data.size := by rw [bl_length] at hl; exact hl
  rw [getElem!_pos s.data k hk]
  exact h1
theorem last_prefix (s t : ByteArray) (c : Int) : ∀ k, (∀ j, j < k → s.data[j]! = t.data[j]!) → Lib.lastIdx s c k = Lib.lastIdx t c k := by
  intro k
  induction k with
  | zero => intro _; rfl
  | succ k ih =>
    intro h
    unfold Lib.lastIdx
    rw [h k (by omega), ih (fun j hj => h j (by omega))]
theorem last_le (s : ByteArray) (c : Int) (k : Nat) : -1 ≤ Lib.lastIdx s c k ∧ Lib.lastIdx s c k < k := by
  rcases Lib.lastIdx_spec s c k with ⟨h, _⟩ | ⟨i, hi, h, _⟩ <;> rw [h] <;> omega
theorem lines_le (s : ByteArray) (i : Nat) : lines s i ≤ i := by
  unfold lines
  have h1 := List.count_le_length (a := (10 : UInt8)) (l := (bl s).take i)
  rw [List.length_take] at h1
  omega
theorem place_loop (s : ByteArray) (hs : s.size ≤ 6000) (at_ : Int) (n : Nat) (hn : n ≤ s.size) (hstop : n < s.size → ¬ (n : Int) < at_) (hgo : ∀ i : Nat, i < n → (i : Int) < at_) : ∀ (d i : Nat), n - i ≤ d → i ≤ n →
    Ev (fun k => headgateref20_Place.l0 k s at_ (1 + (lines s i : Nat) : Int) ((i : Int) - Lib.lastIdx s 10 i) (i : Int)) ((1 + (lines s n : Nat) : Int), (n : Int) - Lib.lastIdx s 10 n) := by
  intro d
  induction d with
  | zero =>
    intro i hd hi
    have : i = n := by omega
    subst this
    have fin : Ev (fun k => headgateref20_Place.j1 k s at_ (1 + (lines s i : Nat) : Int) ((i : Int) - Lib.lastIdx s 10 i) (i : Int) false) ((1 + (lines s i : Nat) : Int), (i : Int) - Lib.lastIdx s 10 i) := by
      refine Ev.step (fun k => by rw [headgateref20_Place.j1]) ?_
      simp only [Bool.false_eq_true, if_false]
      exact Ev.now _
    refine Ev.step (fun k => by rw [headgateref20_Place.l0]) ?_
    by_cases h : i < s.size
    · simp only [if_pos (show (i : Int) < (s.size : Int) by omega), decide_eq_false (hstop h)]
      exact fin
    · simp only [if_neg (show ¬ (i : Int) < (s.size : Int) by omega)]
      exact fin
  | succ d ih =>
    intro i hd hi
    by_cases hin : i = n
    · exact ih i (by omega) hi
    · have hlt : i < s.size := by omega
      cases hdr : (bl s).drop i with
      | nil => have := congrArg List.length hdr; rw [List.length_drop, bl_length] at this; simp at this; omega
      | cons c r =>
      obtain ⟨hb, _, hr⟩ := bt_cons hdr
      have hg := data_get s i c r hdr
      have hlast : Lib.lastIdx s 10 (i + 1) = if (c.toNat : Int) = 10 then (i : Int) else Lib.lastIdx s 10 i := by
        show (if ((s.data[i]!).toNat : Int) = 10 then _ else _) = _
        rw [hg]
      have hlines : lines s (i + 1) = lines s i + if (c.toNat : Int) = 10 then 1 else 0 := by
        unfold lines
        have hl : i < (bl s).length := by rw [bl_length]; exact hlt
        rw [List.take_succ_eq_append_getElem hl, List.count_append]
        have e := List.drop_eq_getElem_cons hl
        rw [e] at hdr
        injection hdr with h1 _
        rw [h1]
        congr 1
        rw [List.count_singleton]
        have := u8eq c 10 (by omega)
        by_cases h : c = 10
        · subst h; rfl
        · rw [if_neg (by simpa using h), if_neg (fun h' => h (this.2 (by simpa using h')))]
      have hb1 := last_le s 10 i
      have hb2 := lines_le s i
      have hrec := ih (i + 1) (by omega) (by omega)
      rw [hlast, hlines] at hrec
      refine Ev.step (fun k => by rw [headgateref20_Place.l0]) ?_
      simp only [if_pos (show (i : Int) < (s.size : Int) by omega), decide_eq_true (hgo i (by omega))]
      refine Ev.step (fun k => by rw [headgateref20_Place.j1]) ?_
      simp only [if_true, if_pos (show (0 : Int) ≤ (i : Int) by omega), if_pos (show (i : Int) < (s.size : Int) by omega), hb]
      by_cases h : (c.toNat : Int) = 10
      · simp only [if_pos h] at hrec ⊢
        rw [wrap_id (x := 1 + _ + 1) (by omega) (by omega), wrap_id (x := (i : Int) + 1) (by omega) (by omega)]
        rw [show ((i + 1 : Nat) : Int) - (i : Int) = 1 by omega] at hrec
        rw [show (1 + ((lines s i : Nat) : Int) + 1) = (1 + ((lines s i + 1 : Nat) : Int)) by omega, show (i : Int) + 1 = ((i + 1 : Nat) : Int) by omega]
        exact hrec
      · simp only [if_neg h] at hrec ⊢
        rw [wrap_id (x := (i : Int) - _ + 1) (by omega) (by omega), wrap_id (x := (i : Int) + 1) (by omega) (by omega)]
        rw [show (i : Int) - Lib.lastIdx s 10 i + 1 = ((i + 1 : Nat) : Int) - Lib.lastIdx s 10 i by omega, show (i : Int) + 1 = ((i + 1 : Nat) : Int) by omega]
        simpa using hrec
/-- Where a place lies, cut back to the text. -/
def clip (s : ByteArray) (a : Int) : Nat := (mx 0 (mn a (s.size : Int))).toNat
theorem clip_eq (s : ByteArray) (a : Int) : mx 0 (mn a (s.size : Int)) = (clip s a : Int) ∧ clip s a ≤ s.size := by
  unfold clip mx mn
  repeat' split
  all_goals omega
theorem prog_place (s : ByteArray) (hs : s.size ≤ 6000) (a : Int) : lex_Place.f s a = some ((1 + (lines s (clip s a) : Nat) : Int), (clip s a : Int) - Lib.lastIdx s 10 (clip s a)) := by
  obtain ⟨h1, h2⟩ := clip_eq s a
  unfold lex_Place.f
  rw [h1]
  generalize clip s a = n at *
  rw [if_pos (by omega), if_pos (by omega)]
  have hz : (s.extract 0 ((n : Int)).toNat).size = n := by rw [← bl_length, bl_extract]; simp [bl_length]; omega
  unfold strings_Count.f strings_LastIndexByte.f
  rw [if_pos (show (⟨#[10]⟩ : ByteArray).size = 1 from rfl), if_pos (by omega)]
  simp only [Option.bind_some]
  have hc : (Lib.countByte (s.extract 0 ((n : Int)).toNat).data.toList ((⟨#[10]⟩ : ByteArray).data.toList.getD 0 0) : Nat) = lines s n := by
    show (bl (s.extract 0 ((n : Int)).toNat)).count 10 = _
    rw [bl_extract]; simp [lines]
  have hl : Lib.lastIndexByte (s.extract 0 ((n : Int)).toNat) 10 = Lib.lastIdx s 10 n := by
    unfold Lib.lastIndexByte
    rw [hz]
    refine last_prefix _ _ _ _ (fun j hj => ?_)
    have hl : j < (bl s).length := by rw [bl_length]; omega
    have e := List.drop_eq_getElem_cons hl
    have g1 := data_get s j _ _ e
    have g2 := data_get (s.extract 0 ((n : Int)).toNat) j (bl s)[j] (((bl s).take n).drop (j + 1)) (by
      rw [bl_extract]
      simp only [Int.toNat_natCast, List.drop_zero, Nat.sub_zero]
      have hl2 : j < ((bl s).take n).length := by rw [List.length_take]; omega
      rw [List.drop_eq_getElem_cons hl2, List.getElem_take])
    rw [g1, g2]
  have hb1 := last_le s 10 n
  have hb2 := lines_le s n
  rw [hl, hc, wrap_id (x := 1 + _) (by omega) (by omega), wrap_id (by omega) (by omega)]
theorem ref_place (s : ByteArray) (hs : s.size ≤ 6000) (a : Int) : Ev (fun k => headgateref20_Place.f k s a) ((1 + (lines s (clip s a) : Nat) : Int), (clip s a : Int) - Lib.lastIdx s 10 (clip s a)) := by
  obtain ⟨h1, h2⟩ := clip_eq s a
  have := place_loop s hs a (clip s a) h2 (fun h => by revert h1; unfold mx mn; repeat' split
                                                       all_goals omega) (fun i hi => by revert h1; unfold mx mn; repeat' split
                                                                                        all_goals omega) (clip s a) 0 (by omega) (by omega)
  simpa [headgateref20_Place.f, lines, Lib.lastIdx] using this
theorem LexPlaces : headgatelaw20_LexPlaces.Pure := by
  intro s a hs _
  apply Ev.rounds
  unfold headgatelaw20_LexPlaces.f
  have fin : ∀ x : ByteArray, x.size ≤ 6000 → Ev (fun k => (lex_Place.f x a).bind fun p => ((headgateref20_Place.f k x a).bind fun q => (if p.1 = q.1 then (if p.2 = q.2 then ((headgatelaw20_awake.f k).bind fun t => (some t)) else (some false)) else (some false)))) true := by
    intro x hx
    simp only [prog_place x hx a, Option.bind_some]
    refine Ev.bind (ref_place x hx a) ?_
    simp only [if_true]
    exact Ev.bind awake20 (Ev.now _)
  by_cases h : (s.size : Int) > 6000
  · simp only [if_pos h, if_pos (show (6000 : Int) ≤ (s.size : Int) by omega)]
    exact fin _ (by rw [← bl_length, bl_extract]; simp [bl_length]; omega)
  · simp only [if_neg h]
    exact fin _ (by omega)
end Go.Proofs.YtdbccnhdblljbaaDoor.P
