-- Written by this session's program drv.py, by means of the kit's printer; not a text of print.sh.
import Derived.Test.YtdbccnhdblljbaaDoorF0
import Derived.Test.YtdbccnhdblljbaaDoorF120
import Derived.Test.YtdbccnhdblljbaaDoorF86
import Derived.RangeFuncNested
import Derived.RangeFuncBound
import Derived.RangeFuncCalls
import Derived.RangeFuncLeaves
import Derived.OwnWalkIn
import Derived.TacticsInMore
import Derived.LoopNIn
import Derived.LoopIn
import Derived.OneCell
import Derived.Shelf.Abstract
import Derived.Test.YtdbccnhdblljbaaDoorShelf
namespace Go.Proofs.YtdbccnhdblljbaaDoor.P
open Go.RowKit Go.Proofs.YtdbccnhdblljbaaDoorW.PrintWords Go.Proofs.YtdbccnhdblljbaaDoorW.PrintLast Go.Proofs.YtdbccnhdblljbaaDoorW.PrintMore
attribute [local go_sem] max2_int min2_int max_two min_two max_three min_three max_four min_four   -- for this text's walks alone
set_option linter.unusedVariables false
set_option linter.unusedSimpArgs false

/-! The signs' text, cut at its blanks. -/
def lexSigns : ByteArray := ⟨#[60, 61, 32, 62, 61, 32, 60, 62, 32, 43, 32, 45, 32, 42, 32, 47, 32, 37, 32, 61, 32, 60, 32, 62, 32, 40, 32, 41, 32, 44, 32, 58, 32, 59, 32, 123, 32, 125, 32, 91, 32, 93]⟩
def lexPieces : List ByteArray := [⟨#[60, 61]⟩, ⟨#[62, 61]⟩, ⟨#[60, 62]⟩, ⟨#[43]⟩, ⟨#[45]⟩, ⟨#[42]⟩, ⟨#[47]⟩, ⟨#[37]⟩, ⟨#[61]⟩, ⟨#[60]⟩, ⟨#[62]⟩, ⟨#[40]⟩, ⟨#[41]⟩, ⟨#[44]⟩, ⟨#[58]⟩, ⟨#[59]⟩, ⟨#[123]⟩, ⟨#[125]⟩, ⟨#[91]⟩, ⟨#[93]⟩]
def lexPiece (i : Nat) : ByteArray := lexPieces.getD i ⟨#[]⟩
/-- Where the i-th piece begins. -/
def lexStart (i : Nat) : Nat := if i < 3 then 3 * i else 2 * i + 3
def lexRest (i : Nat) : ByteArray := lexSigns.extract (lexStart i) 42
theorem lexRest_zero : lexRest 0 = lexSigns := by decide +kernel
theorem lexRest_index : ∀ i, i < 19 → Lib.indexByte (lexRest i).data.toList 32 = ((lexPiece i).size : Int) := by decide +kernel
theorem lexRest_last : Lib.indexByte (lexRest 19).data.toList 32 = -1 := by decide +kernel
theorem lexRest_size : ∀ i, i < 19 → (lexPiece i).size + 1 ≤ (lexRest i).size ∧ (lexRest i).size ≤ 42 ∧ 1 ≤ (lexPiece i).size := by decide +kernel
theorem lexRest_head : ∀ i, i < 19 → (lexRest i).extract 0 (lexPiece i).size = lexPiece i := by decide +kernel
theorem lexRest_tail : ∀ i, i < 19 → (lexRest i).extract ((lexPiece i).size + 1) (lexRest i).size = lexRest (i + 1) := by decide +kernel
theorem lexRest_end : lexRest 19 = lexPiece 19 := by decide +kernel
/-- Does a text begin with another one? -/
def lexBegins (s p : ByteArray) : Bool := decide (p.size ≤ s.size) && (s.extract 0 p.size).toList == p.toList
theorem lexBegins_f (s p : ByteArray) : strings_HasPrefix.f s p = some (lexBegins s p) := by
  unfold strings_HasPrefix.f stringslite_HasPrefix.f lexBegins
  by_cases h : (p.size : Int) ≤ (s.size : Int)
  · rw [if_pos (by exact h), if_pos (by omega), if_pos h]
    have h' : p.size ≤ s.size := by omega
    simp [h']
  · rw [if_neg (by exact h)]
    have h' : ¬ p.size ≤ s.size := by omega
    simp [h']
theorem lexSplit_calls (s sep : ByteArray) (w : World) :
    Calls Tryd.prog 85 #[.string s, .string sep] w fun e w' => e = .returned (.func (.func 134) #[] #[.pointer (some ⟨w.heap.size + 1, 0, none⟩), .pointer (some ⟨w.heap.size, 0, none⟩), .pointer (some ⟨w.heap.size + 1 + 1, 0, none⟩)]) ∧
      w' = ((w.alloc (.cells #[.string s] 9)).alloc (.cells #[.string sep] 9)).alloc (.cells #[.int .i64 0] 3) := by
  go_enter Tryd.func85, Tryd.ntmps85
  go_wp2
  go_ret
  exact ⟨rfl, rfl⟩
/-- What lies in the seven blocks of a call of sign between two rounds. -/
structure LexAt (w0 W : World) (b : Nat) (s : ByteArray) (rec : LoopState → Option Code → Loop) (i : Nat) : Prop where
  below : Below w0.heap.size w0 W
  base : w0.heap.size ≤ b
  arg : W.heap[b]? = some (.cells #[.string s] 9 (0, 0))
  res : W.heap[b + 1]? = some (.cells #[.string ⟨#[]⟩] 9 (0, 0))
  rest : W.heap[b + 2]? = some (.cells #[.string (lexRest i)] 9 (0, 0))
  sep : W.heap[b + 3]? = some (.cells #[.string ⟨#[32]⟩] 9 (0, 0))
  save : W.heap[b + 4]? = some (.cells #[.int .i64 0] 3 (0, 0))
  defd : W.heap[b + 5]? = some (.deferred (some []))
  loop : W.heap[b + 6]? = some (.loop (rec .ready none))
  none_ : ∀ j, j < i → lexBegins s (lexPiece j) = false
/-- All pieces have come, none fits. -/
structure LexDone (w0 W : World) (b : Nat) (s : ByteArray) (rec : LoopState → Option Code → Loop) : Prop where
  below : Below w0.heap.size w0 W
  base : w0.heap.size ≤ b
  res : W.heap[b + 1]? = some (.cells #[.string ⟨#[]⟩] 9 (0, 0))
  defd : W.heap[b + 5]? = some (.deferred (some []))
  loop : W.heap[b + 6]? = some (.loop (rec .ready none))
  none_ : ∀ j, j < 20 → lexBegins s (lexPiece j) = false
/-- A piece has been found. -/
structure LexFound (w0 W : World) (b : Nat) (s : ByteArray) (rec : LoopState → Option Code → Loop) (i : Nat) : Prop where
  below : Below w0.heap.size w0 W
  base : w0.heap.size ≤ b
  lt : i < 20
  res : W.heap[b + 1]? = some (.cells #[.string (lexPiece i)] 9 (0, 0))
  defd : W.heap[b + 5]? = some (.deferred (some []))
  loop : W.heap[b + 6]? = some (.loop (rec .done (some .ret)))
  none_ : ∀ j, j < i → lexBegins s (lexPiece j) = false
  yes : lexBegins s (lexPiece i) = true
theorem LexAt.step {w0 W : World} {b : Nat} {s : ByteArray} {rec : LoopState → Option Code → Loop} {i : Nat} (h : LexAt w0 W b s rec i) (hn : lexBegins s (lexPiece i) = false) :
    LexAt w0 (W.setCell ⟨b + 2, 0, none⟩ (.string (lexRest (i + 1)))) b s rec (i + 1) := by
  have hb := h.base
  have far : ∀ k, k ≠ b + 2 → (W.setCell ⟨b + 2, 0, none⟩ (.string (lexRest (i + 1)))).heap[k]? = W.heap[k]? := fun k hk => Below.heap_setCell W ⟨b + 2, 0, none⟩ _ k hk
  refine ⟨h.below.setCell (p := ⟨b + 2, 0, none⟩) (by show w0.heap.size ≤ b + 2; omega) _, h.base, (far b (by omega)).trans h.arg, (far (b + 1) (by omega)).trans h.res, one_setCell h.rest, (far (b + 3) (by omega)).trans h.sep, (far (b + 4) (by omega)).trans h.save, (far (b + 5) (by omega)).trans h.defd, (far (b + 6) (by omega)).trans h.loop, ?_⟩
  intro j hj
  by_cases e : j = i
  · rw [e]; exact hn
  · exact h.none_ j (by omega)
section
attribute [local go_sem] Oper.semAt_some
set_option maxHeartbeats 2000000 in
set_option maxRecDepth 100000 in
theorem lexIter_in (n : Nat) (hn : 3 ≤ n) (w0 : World) (b : Nat) (s : ByteArray) (rec : LoopState → Option Code → Loop)
    (hY : ∀ i W, i < 20 → LexAt w0 W b s rec i → YieldAt Fence.wide (n - 1) Tryd.prog (b + 6) #[.string (lexPiece i)] W fun e W' =>
      (e = .returned (.bool true) ∧ lexBegins s (lexPiece i) = false ∧ LexAt w0 W' b s rec i) ∨ (e = .returned (.bool false) ∧ LexFound w0 W' b s rec i))
    (W : World) (hW : LexAt w0 W b s rec 0) :
    CallsIn Fence.wide n Tryd.prog 134 #[.func (.yield (b + 6)) #[] #[], .pointer (some ⟨b + 3, 0, none⟩), .pointer (some ⟨b + 2, 0, none⟩), .pointer (some ⟨b + 4, 0, none⟩)] W fun e W' =>
      (∃ v, e = .returned v) ∧ (LexDone w0 W' b s rec ∨ ∃ i, LexFound w0 W' b s rec i) := by
  refine callsIn_of_wp Tryd.func134 rfl trivial ?_ rfl
  simp only [Tryd.ntmps134, List.size_toArray, List.length_cons, List.length_nil, Nat.reduceAdd, Nat.reduceSub, Array.replicate_succ, Array.replicate_zero, List.push_toArray, List.append_toArray, List.nil_append, List.cons_append]
  have c3 := cell_of_one hW.sep
  have H := Aside0.mk hW
  gi_wp2
  clear hW c3
  gi_loopw [7] (fun _ wr => ∃ i, i < 20 ∧ LexAt w0 wr b s rec i) (fun _ wr => match wr.cell? ⟨b + 2, 0, none⟩ with | some (.string r) => r.size | _ => 0)
  case atStart => exact ⟨0, by omega, H.out⟩
  case round =>
    clear H
    obtain ⟨i, hi, hW⟩ := hrel
    have c3 := cell_of_one hW.sep
    have c2 := cell_of_one hW.rest
    have c4 := cell_of_one hW.save
    have f2 := free_of_one hW.rest
    have H := Aside0.mk hW
    clear hW
    by_cases h19 : i < 19
    · have hx := Aside0.mk (lexRest_index i h19)
      have hs := lexRest_size i h19
      obtain ⟨fn, tmps, assign, body, hy, hR⟩ := hY i wr hi H.out
      rw [← lexRest_head i h19] at hy
      have htl := lexRest_tail i h19
      have hs2 := lexRest_size i h19
      have hm : Aside0 ((lexRest (i + 1)).size < (lexRest i).size) := ⟨by rw [← htl, ByteArray.size_extract]; omega⟩
      clear hs2
      generalize hz : (lexPiece i).size = z at *
      have HZ := Aside0.mk hz
      have d1 : decide ((z : Int) < 0) = false := decide_eq_false (by omega)
      have d2 : decide (0 ≤ (z : Int)) = true := decide_eq_true (by omega)
      have d3 : decide ((z : Int) ≤ ((lexRest i).size : Int)) = true := decide_eq_true (by omega)
      have d4 : z ≤ (lexRest i).size := by omega
      have HT := Aside0.mk htl
      clear hz htl
      gi_wp2_with (first | (refine ⟨trivial, fun h => absurd h (by decide), ?_⟩; gi_at_call 91; (with_reducible refine (callsIn_wide.2 (Tryd.strings_Index_one (lexRest i) 32 _)).mono ?_); rintro e w' ⟨rfl, rfl⟩; rw [hx.out]))
      refine ⟨fun h => absurd h (by decide), hR.mono ?_⟩
      clear hy hR
      have c2w := c2
      rintro e W2 (⟨rfl, hno, hA⟩ | ⟨rfl, hF⟩)
      · have c3 := cell_of_one hA.sep
        have c2 := cell_of_one hA.rest
        have f2 := free_of_one hA.rest
        have HA := Aside0.mk hA
        have HN := Aside0.mk hno
        clear hA hno
        gi_wp2
        have h2 := HA.out.step HN.out
        rw [HT.out]
        refine ⟨⟨i + 1, by omega, h2⟩, ?_⟩
        rw [cell_of_one h2.rest, c2w]
        exact hm.out
      · have HF := Aside0.mk hF
        clear hF
        gi_wp2
        refine bodyPost_ret (results_none rfl _ _ _) rfl ?_
        exact ⟨⟨_, rfl⟩, .inr ⟨i, HF.out⟩⟩
    · have h20 : i = 19 := by omega
      subst h20
      have hx := Aside0.mk lexRest_last
      obtain ⟨fn, tmps, assign, body, hy, hR⟩ := hY 19 wr (by omega) H.out
      rw [← lexRest_end] at hy
      gi_wp2_with (first | (refine ⟨trivial, fun h => absurd h (by decide), ?_⟩; gi_at_call 91; (with_reducible refine (callsIn_wide.2 (Tryd.strings_Index_one (lexRest 19) 32 _)).mono ?_); rintro e w' ⟨rfl, rfl⟩; rw [hx.out]))
      refine ⟨fun h => absurd h (by decide), hR.mono ?_⟩
      clear hy hR
      rintro e W2 (⟨rfl, hno, hA⟩ | ⟨rfl, hF⟩)
      · gi_wp2
        go_end0
        exact ⟨⟨_, rfl⟩, .inl ⟨hA.below, hA.base, hA.res, hA.defd, hA.loop, fun j hj => by
          by_cases e : j = 19
          · rw [e]; exact hno
          · exact hA.none_ j (by omega)⟩⟩
      · gi_wp2
        go_end0
        exact ⟨⟨_, rfl⟩, .inr ⟨19, hF⟩⟩
/-- The sign with which a text begins. -/
def lexSign (s : ByteArray) : ByteArray := (lexPieces.find? (fun p => lexBegins s p)).getD ⟨#[]⟩
theorem lexFind_none (s : ByteArray) (h : ∀ j, j < 20 → lexBegins s (lexPiece j) = false) : lexSign s = ⟨#[]⟩ := by
  unfold lexSign
  rw [List.find?_eq_none.2]
  · rfl
  · intro x hx
    obtain ⟨j, hj, rfl⟩ := List.getElem_of_mem hx
    have := h j hj
    unfold lexPiece at this
    rw [List.getD_eq_getElem?_getD, List.getElem?_eq_getElem hj] at this
    simpa using this
theorem lexFind_some (s : ByteArray) (i : Nat) (hi : i < 20) (h : ∀ j, j < i → lexBegins s (lexPiece j) = false) (hy : lexBegins s (lexPiece i) = true) : lexSign s = lexPiece i := by
  have hl : lexPieces.length = 20 := rfl
  have e : lexPieces = lexPieces.take i ++ lexPiece i :: lexPieces.drop (i + 1) := by
    have e1 : lexPiece i = lexPieces[i]'(by omega) := by unfold lexPiece; rw [List.getD_eq_getElem?_getD, List.getElem?_eq_getElem (by omega)]; rfl
    rw [e1, List.getElem_cons_drop, List.take_append_drop]
  unfold lexSign
  have e2 : lexPieces.find? (fun p => lexBegins s p) = some (lexPiece i) := by
    rw [e, List.find?_append]
    have : (lexPieces.take i).find? (fun p => lexBegins s p) = none := by
      rw [List.find?_eq_none]
      intro x hx
      obtain ⟨j, hj, rfl⟩ := List.getElem_of_mem hx
      have hj' : j < i := by simp at hj; omega
      have := h j hj'
      unfold lexPiece at this
      rw [List.getD_eq_getElem?_getD, List.getElem?_eq_getElem (by omega)] at this
      rw [List.getElem_take]
      simpa using this
    rw [this]
    simp [List.find?_cons, hy]
  rw [e2]
  rfl
theorem lexAlloc5 (w : World) (o0 o1 o2 o3 o4 : Obj) (k : Nat) (hk : k < 5) : (((((w.alloc o0).alloc o1).alloc o2).alloc o3).alloc o4).heap[w.heap.size + k]? = some (if k = 0 then o0 else if k = 1 then o1 else if k = 2 then o2 else if k = 3 then o3 else o4) := by
  show (((((w.heap.push o0).push o1).push o2).push o3).push o4)[w.heap.size + k]? = _
  simp only [Array.getElem?_push, Array.size_push]
  repeat' split
  all_goals first | rfl | omega
def lex_sign.f (a0 : ByteArray) : Option ByteArray := some (lexSign a0)
set_option maxHeartbeats 2000000 in
set_option maxRecDepth 100000 in
theorem lexSign_in (n : Nat) (hn : 6 ≤ n) (s : ByteArray) (w : World) :
    CallsIn Fence.wide n Tryd.prog 57 #[.string s] w fun e w' => e = .returned (.string (lexSign s)) ∧ Below w.heap.size w w' := by
  have h1 : 1 ≤ n := by omega
  refine callsIn_of_wp_marks Tryd.func57 rfl trivial ?_ rfl
  simp only [Tryd.ntmps57, List.size_toArray, List.length_cons, List.length_nil, Nat.reduceAdd, Nat.reduceSub, Array.replicate_succ, Array.replicate_zero, List.push_toArray, List.append_toArray, List.nil_append, List.cons_append]
  gi_wp2_with (first | (refine ⟨trivial, ?_⟩; gi_at_call 85; (with_reducible refine (callsIn_wide.2 (lexSplit_calls _ _ _)).mono ?_); rintro e w' ⟨rfl, rfl⟩))
  obtain ⟨W0, hW0⟩ : ∃ W0, ((((w.alloc (.cells #[.string s] 9)).alloc (.cells #[.string ⟨#[]⟩] 9)).alloc (.cells #[.string lexSigns] 9)).alloc (.cells #[.string ⟨#[32]⟩] 9)).alloc (.cells #[.int .i64 0] 3) = W0 := ⟨_, rfl⟩
  have hs0 : W0.heap.size = w.heap.size + 5 := by rw [← hW0]; simp
  have hB0 : Below w.heap.size w W0 := by rw [← hW0]; exact (((((Below.refl _ w).alloc (by simp) _).alloc (by simp) _).alloc (by simp; omega) _).alloc (by simp; omega) _).alloc (by simp; omega) _
  have b0 : W0.heap[w.heap.size]? = some (.cells #[.string s] 9 (0, 0)) := by rw [← hW0]; exact lexAlloc5 w _ _ _ _ _ 0 (by omega)
  have b1 : W0.heap[w.heap.size + 1]? = some (.cells #[.string ⟨#[]⟩] 9 (0, 0)) := by rw [← hW0]; exact lexAlloc5 w _ _ _ _ _ 1 (by omega)
  have b2 : W0.heap[w.heap.size + 2]? = some (.cells #[.string lexSigns] 9 (0, 0)) := by rw [← hW0]; exact lexAlloc5 w _ _ _ _ _ 2 (by omega)
  have b3 : W0.heap[w.heap.size + 3]? = some (.cells #[.string ⟨#[32]⟩] 9 (0, 0)) := by rw [← hW0]; exact lexAlloc5 w _ _ _ _ _ 3 (by omega)
  have b4 : W0.heap[w.heap.size + 4]? = some (.cells #[.int .i64 0] 3 (0, 0)) := by rw [← hW0]; exact lexAlloc5 w _ _ _ _ _ 4 (by omega)
  change Code.wpIn Fence.wide n Tryd.prog _ _ _ (((((w.alloc (.cells #[.string s] 9)).alloc (.cells #[.string ⟨#[]⟩] 9)).alloc (.cells #[.string lexSigns] 9)).alloc (.cells #[.string ⟨#[32]⟩] 9)).alloc (.cells #[.int .i64 0] 3))
  rw [hW0]
  clear hW0
  refine wpIn_rangeFunc ?_
  intro fn hfn
  obtain ⟨tm, htm⟩ : ∃ tm : Array Value, (#[.string s, .pointer (some ⟨w.heap.size, 0, none⟩), .pointer (some ⟨w.heap.size + 1, 0, none⟩), undef, .func (.func 134) #[] #[.pointer (some ⟨w.heap.size + 3, 0, none⟩), .pointer (some ⟨w.heap.size + 2, 0, none⟩), .pointer (some ⟨w.heap.size + 4, 0, none⟩)], undef, undef, undef, undef, undef] : Array Value) = tm := ⟨_, rfl⟩
  change ∃ l mark w₁ d w₁' f args w₂, Sem.run _ (Instr.enterLoop fn _ _ ?assign ?body _) _ = _ ∧ _
  generalize hA : (Code.region 2 _ false) = assign
  generalize hBo : (Code.block 1 _) = body
  obtain ⟨rec, hrec⟩ : ∃ rec : LoopState → Option Code → Loop, rec = fun st pe => { state := st, pending := pe, fn, tmps := tm, params := #[5], assign, body, defers := W0.heap.size } := ⟨_, rfl⟩
  obtain ⟨W1, hW1⟩ : ∃ W1, (W0.alloc (.deferred (some []))).alloc (.loop (rec .ready none)) = W1 := ⟨_, rfl⟩
  have old : ∀ k, k < W0.heap.size → W1.heap[k]? = W0.heap[k]? := fun k hk => by
    rw [← hW1]; exact (Below.heap_alloc _ _ _ (by simp; omega)).trans (Below.heap_alloc _ _ _ hk)
  have hL1 : W1.heap[w.heap.size + 6]? = some (.loop (rec .ready none)) := by
    rw [← hW1]; have := World.alloc_heap_new (W0.alloc (.deferred (some []))) (.loop (rec .ready none)); rwa [World.size_alloc, hs0] at this
  have hK1 : W1.heap[w.heap.size + 5]? = some (.deferred (some [])) := by
    rw [← hW1]; have := (Below.heap_alloc (W0.alloc (.deferred (some []))) (.loop (rec .ready none)) W0.heap.size (by simp)).trans (World.alloc_heap_new W0 _); rwa [hs0] at this
  have hA1 : LexAt w W1 w.heap.size s rec 0 := ⟨by rw [← hW1]; exact (hB0.alloc (by omega) _).alloc (by simp; omega) _, Nat.le_refl _, (old _ (by omega)).trans b0, (old _ (by omega)).trans b1,
    by rw [lexRest_zero]; exact (old _ (by omega)).trans b2, (old _ (by omega)).trans b3, (old _ (by omega)).trans b4, hK1, hL1, fun j hj => by omega⟩
  refine ⟨w.heap.size + 6, [{ target := .collected (w.heap.size + 5), args := #[] }], W1, { target := .fn (.func 134) #[.pointer (some ⟨w.heap.size + 3, 0, none⟩), .pointer (some ⟨w.heap.size + 2, 0, none⟩), .pointer (some ⟨w.heap.size + 4, 0, none⟩)], args := #[.func (.yield (w.heap.size + 6)) #[] #[]] }, W1, 134,
    #[.func (.yield (w.heap.size + 6)) #[] #[], .pointer (some ⟨w.heap.size + 3, 0, none⟩), .pointer (some ⟨w.heap.size + 2, 0, none⟩), .pointer (some ⟨w.heap.size + 4, 0, none⟩)], W1, ?_, ?_, fun _ _ => trivial, ?_, fun _ => h1, ?_⟩
  · have := run_enterLoop_outer (P := Tryd.prog) (w := W0) fn tm #[5] assign body
    rw [hs0] at this
    rw [← hW1, hrec]
    simp only [hs0]
    exact (congrArg (fun z => Sem.run Tryd.prog (Instr.enterLoop fn z #[5] assign body none) W0) htm).trans this
  · simp only [resolve]
    simp [go_sem]
  · simp [invoke, go_sem, enters_of Tryd.func134 (by kernel_rfl) rfl]
  · refine (lexIter_in (n - 1) (by omega) w w.heap.size s rec ?_ W1 hA1).mono ?_
    · intro i W hi hW
      subst htm
      have hy := run_yield (P := Tryd.prog) (args := #[.string (lexPiece i)]) hW.loop (by rw [hrec]; rfl)
      rw [hrec] at hy
      refine ⟨fn, _, assign, body, hy, roundIn_of_wpIn hfn ?_⟩
      clear hy
      simp only [List.zip_toArray, List.zip_cons_cons, List.zip_nil_left, List.foldl_toArray', List.size_toArray, List.length_cons, List.length_nil, List.foldl_cons, List.foldl_nil, List.setIfInBounds_toArray, List.set_cons_zero, List.set_cons_succ, Nat.reduceAdd]
      rw [← hA]
      gi_wp2
      obtain ⟨Wb, hWb⟩ : ∃ Wb, W.putObj (w.heap.size + 6) (.loop { rec .ready none with state := .busy }) = Wb := ⟨_, rfl⟩
      have far : ∀ k, k ≠ w.heap.size + 6 → Wb.heap[k]? = W.heap[k]? := fun k hk => by rw [← hWb]; exact World.putObj_heap_other hk
      have bel : ∀ (A : World) (o : Obj), Below w.heap.size A (A.putObj (w.heap.size + 6) o) := fun A o => ⟨rfl, rfl, rfl, by rw [World.putObj_size]; exact Nat.le_refl _, fun k hk => World.putObj_heap_other (by omega)⟩
      refine ⟨Wb, by rw [← hWb]; exact run_beginRound hW.loop (by rw [hrec]), ?_⟩
      have HBW : Aside0 (Below w.heap.size w Wb) := ⟨by rw [← hWb]; exact hW.below.trans (bel _ _)⟩
      have d0 := (far _ (by omega)).trans hW.arg
      have d1 := (far _ (by omega)).trans hW.res
      have d2 := Aside0.mk ((far _ (by omega)).trans hW.rest)
      have d3 := Aside0.mk ((far _ (by omega)).trans hW.sep)
      have d4 := Aside0.mk ((far _ (by omega)).trans hW.save)
      have d5 := Aside0.mk ((far _ (by omega)).trans hW.defd)
      have d6 : Aside0 (Wb.heap[w.heap.size + 6]? = some (.loop { rec .ready none with state := .busy })) := ⟨by rw [← hWb]; exact World.putObj_heap_same (lt_of_block hW.loop)⟩
      have c0 := cell_of_one d0
      have c1 := cell_of_one d1
      have f1 := free_of_one d1
      have D0 := Aside0.mk d0
      have D1 := Aside0.mk d1
      have HW := Aside0.mk hW
      have HREC := Aside0.mk hrec
      have FIN : Aside0 (∀ (jump : Option Code) (W3 : World), W3.heap[w.heap.size + 6]? = some (.loop { rec .ready none with state := .busy }) →
          (Instr.endRound (w.heap.size + 6) jump).run Tryd.prog W3 = .ok (.bool jump.isNone) (W3.putObj (w.heap.size + 6) (.loop (rec (if jump.isNone then .ready else .done) jump))) ∧
          (W3.putObj (w.heap.size + 6) (.loop (rec (if jump.isNone then .ready else .done) jump))).heap[w.heap.size + 6]? = some (.loop (rec (if jump.isNone then .ready else .done) jump))) := ⟨fun jump W3 hl3 => by
        have := run_endRound (P := Tryd.prog) jump hl3
        rw [hrec] at this ⊢
        exact ⟨this, World.putObj_heap_same (lt_of_block hl3)⟩⟩
      have BEL := Aside0.mk bel
      clear bel far hW d0 d1 hA1 hL1 hK1 old b0 b1 b2 b3 b4 hB0 hs0 hWb hrec hW1
      rw [← hBo]
      clear hBo hA
      by_cases hb : lexBegins s (lexPiece i) = true
      · have HBG := Aside0.mk hb
        clear hb
        gi_wp2_with (first | (refine ⟨trivial, fun h => absurd h (by decide), ?_⟩; gi_at_call 86; (with_reducible refine (CallsIn.inRound (w.heap.size + 6) (callsIn_wide.2 (strings_HasPrefix.calls s (lexPiece i) true _ (by rw [lexBegins_f, HBG.out])))).mono ?_); rintro e w' ⟨rfl, ⟨nd, rfl⟩⟩))
        have hw3 : Below w.heap.size w ((Wb.drewN nd).setCell ⟨w.heap.size + 1, 0, none⟩ (.string (lexPiece i))) := ((HBW.out).trans (⟨rfl, rfl, rfl, Nat.le_refl _, fun _ _ => rfl⟩ : Below w.heap.size Wb (Wb.drewN nd))).setCell (p := ⟨w.heap.size + 1, 0, none⟩) (by show w.heap.size ≤ w.heap.size + 1; omega) _
        have far3 : ∀ k, k ≠ w.heap.size + 1 → ((Wb.drewN nd).setCell ⟨w.heap.size + 1, 0, none⟩ (.string (lexPiece i))).heap[k]? = Wb.heap[k]? := fun k hk => Below.heap_setCell (Wb.drewN nd) ⟨w.heap.size + 1, 0, none⟩ _ k hk
        have e1 : ((Wb.drewN nd).setCell ⟨w.heap.size + 1, 0, none⟩ (.string (lexPiece i))).heap[w.heap.size + 1]? = some (.cells #[.string (lexPiece i)] 9 (0, 0)) := one_setCell (w := Wb.drewN nd) D1.out
        obtain ⟨g1, g2⟩ := FIN.out (some .ret) _ ((far3 _ (by omega)).trans d6.out)
        exact ⟨_, _, g1, .inr ⟨rfl, hw3.trans (BEL.out _ _), Nat.le_refl _, hi, (World.putObj_heap_other (by omega)).trans e1, (World.putObj_heap_other (by omega)).trans ((far3 _ (by omega)).trans d5.out), g2, HW.out.none_, HBG.out⟩⟩
      · replace hb := Bool.eq_false_iff.mpr hb
        have HBG := Aside0.mk hb
        clear hb
        gi_wp2_with (first | (refine ⟨trivial, fun h => absurd h (by decide), ?_⟩; gi_at_call 86; (with_reducible refine (CallsIn.inRound (w.heap.size + 6) (callsIn_wide.2 (strings_HasPrefix.calls s (lexPiece i) false _ (by rw [lexBegins_f, HBG.out])))).mono ?_); rintro e w' ⟨rfl, ⟨nd, rfl⟩⟩))
        have hw3 : Below w.heap.size w (Wb.drewN nd) := (HBW.out).trans (⟨rfl, rfl, rfl, Nat.le_refl _, fun _ _ => rfl⟩ : Below w.heap.size Wb (Wb.drewN nd))
        obtain ⟨g1, g2⟩ := FIN.out none (Wb.drewN nd) d6.out
        exact ⟨_, _, g1, .inl ⟨rfl, HBG.out, hw3.trans (BEL.out _ _), Nat.le_refl _, (World.putObj_heap_other (by omega)).trans D0.out, (World.putObj_heap_other (by omega)).trans D1.out, (World.putObj_heap_other (by omega)).trans d2.out, (World.putObj_heap_other (by omega)).trans d3.out, (World.putObj_heap_other (by omega)).trans d4.out, (World.putObj_heap_other (by omega)).trans d5.out, g2, HW.out.none_⟩⟩
    · clear hA1 hL1 hK1 old b0 b1 b2 b3 b4 hB0 hW1
      have bel : ∀ (A : World) (o : Obj), Below w.heap.size A (A.putObj (w.heap.size + 6) o) := fun A o => ⟨rfl, rfl, rfl, by rw [World.putObj_size]; exact Nat.le_refl _, fun k hk => World.putObj_heap_other (by omega)⟩
      have bel5 : ∀ (A : World) (o : Obj), Below w.heap.size A (A.putObj (w.heap.size + 5) o) := fun A o => ⟨rfl, rfl, rfl, by rw [World.putObj_size]; exact Nat.le_refl _, fun k hk => World.putObj_heap_other (by omega)⟩
      rintro e W2 ⟨⟨v, rfl⟩, (hD | ⟨i, hF⟩)⟩
      · have he := run_endLoop (P := Tryd.prog) hD.loop (by rw [hrec]; simp)
        have hk := (World.putObj_heap_other (o := .loop { rec .ready none with state := .exhausted }) (show w.heap.size + 5 ≠ w.heap.size + 6 by omega)).trans hD.defd
        have hr := (World.putObj_heap_other (o := .loop { rec .ready none with state := .exhausted }) (show w.heap.size + 1 ≠ w.heap.size + 6 by omega)).trans hD.res
        have hb := hD.below.trans (bel W2 (.loop { rec .ready none with state := .exhausted }))
        generalize W2.putObj (w.heap.size + 6) (.loop { rec .ready none with state := .exhausted }) = W3 at *
        refine ⟨none, W3, by rw [he, hrec], ?_⟩
        have hs := lexFind_none s hD.none_
        have c1 := cell_of_one hr
        have f1 := free_of_one hr
        have HK := Aside0.mk hk
        have HR := Aside0.mk hr
        have HBB := Aside0.mk hb
        have HS := Aside0.mk hs
        have BEL5 := Aside0.mk bel5
        clear hk hr hb hs bel bel5 hD he hrec
        subst htm
        clear hA hBo
        gi_wp2
        have hw3 := HBB.out.setCell (p := ⟨w.heap.size + 1, 0, none⟩) (by show w.heap.size ≤ w.heap.size + 1; omega) (.string ⟨#[]⟩)
        have hK := (Below.heap_setCell W3 ⟨w.heap.size + 1, 0, none⟩ (.string ⟨#[]⟩) (w.heap.size + 5) (by show w.heap.size + 5 ≠ w.heap.size + 1; omega)).trans HK.out
        have hR := (one_setCell (u := .string ⟨#[]⟩) HR.out)
        refine ⟨by simp, .inl ⟨_, _, rfl, run_takeDeferred hK, ?_⟩⟩
        refine ⟨.string ⟨#[]⟩, ?_, by rw [HS.out], hw3.trans (BEL5.out _ _)⟩
        have hc := cell_of_one ((World.putObj_heap_other (o := .deferred none) (show w.heap.size + 1 ≠ w.heap.size + 5 by omega)).trans hR)
        simp [results, Tryd.f57, go_sem, hc]
      · have he := run_endLoop (P := Tryd.prog) hF.loop (by rw [hrec]; simp)
        have hk := (World.putObj_heap_other (o := .loop { rec .done (some .ret) with state := .exhausted }) (show w.heap.size + 5 ≠ w.heap.size + 6 by omega)).trans hF.defd
        have hr := (World.putObj_heap_other (o := .loop { rec .done (some .ret) with state := .exhausted }) (show w.heap.size + 1 ≠ w.heap.size + 6 by omega)).trans hF.res
        have hb := hF.below.trans (bel W2 (.loop { rec .done (some .ret) with state := .exhausted }))
        generalize W2.putObj (w.heap.size + 6) (.loop { rec .done (some .ret) with state := .exhausted }) = W3 at *
        refine ⟨some .ret, W3, by rw [he, hrec], ?_⟩
        have hs := lexFind_some s i hF.lt hF.none_ hF.yes
        have HK := Aside0.mk hk
        have HR := Aside0.mk hr
        have HBB := Aside0.mk hb
        have HS := Aside0.mk hs
        have BEL5 := Aside0.mk bel5
        clear hk hr hb hs bel bel5 hF he hrec
        subst htm
        clear hA hBo
        gi_wp2
        refine ⟨by simp, .inl ⟨_, _, rfl, run_takeDeferred HK.out, ?_⟩⟩
        refine ⟨.string (lexPiece i), ?_, by rw [HS.out], HBB.out.trans (BEL5.out _ _)⟩
        have hc := cell_of_one ((World.putObj_heap_other (o := .deferred none) (show w.heap.size + 1 ≠ w.heap.size + 5 by omega)).trans HR.out)
        simp [results, Tryd.f57, go_sem, hc]
end
theorem lex_sign.calls (a0 : ByteArray) (r : ByteArray) (w : World) (h : lex_sign.f a0 = some r) :
    Calls Tryd.prog 57 #[.string a0] w fun e w' => e = .returned (.string r) ∧ Below w.heap.size w w' := by
  obtain rfl := Option.some.inj h
  exact callsIn_wide.1 (lexSign_in 6 (Nat.le_refl _) a0 w)

end Go.Proofs.YtdbccnhdblljbaaDoor.P
