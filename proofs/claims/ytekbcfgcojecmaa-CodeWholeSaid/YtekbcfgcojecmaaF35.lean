import Derived.Test.YtekbcfgcojecmaaBetA
import Derived.Lib.Hide
namespace Go.Proofs.Ytekbcfgcojecmaa.P
open Go.RowKit Go.Maps Go.Proofs.YtekbcfgcojecmaaW.PrintWords Go.Proofs.YtekbcfgcojecmaaW.PrintLast Go.Proofs.YtekbcfgcojecmaaW.PrintMore
set_option linter.unusedVariables false
set_option linter.unusedSimpArgs false
/-- Does an instruction leave 1 or 0? -/
def truthB (op : Int) : Bool := op == 6 || (decide (12 ≤ op) && decide (op ≤ 17))
/-- What may be left out at a place: from where, and how many. -/
def cutAt (l : List S54) (i : Nat) : Option (Nat × Nat) :=
  if (rd_T54 l (i : Int)).f0 = 30 then (if (rd_T54 l (i : Int)).f1 = (i : Int) + 1 then some (i, 1) else none)
  else if i = 0 then none else if cnt l (i : Int) ≠ 0 then none
  else if (rd_T54 l (i : Int)).f0 = 32 then (if truthB (rd_T54 l ((i - 1 : Nat) : Int)).f0 = true then some (i, 1) else none)
  else if (rd_T54 l (i : Int)).f0 = 31 then (if (rd_T54 l ((i - 1 : Nat) : Int)).f0 = 1 ∧ (rd_T54 l ((i - 1 : Nat) : Int)).f1 ≠ 0 then some (i - 1, 2) else none)
  else none
def cutFrom (l : List S54) : Nat → Nat → Option (Nat × Nat)
  | 0, _ => none
  | k + 1, i => match cutAt l i with
    | some r => some r
    | none => cutFrom l k (i + 1)
/-- A jump to a jump goes on where that one does. -/
def threadAt (l : List S54) (i : Nat) : Option (List S54) :=
  if jmp (rd_T54 l (i : Int)) = true ∧ (rd_T54 l (i : Int)).f1 ≠ (l.length : Int) ∧ (rd_T54 l (rd_T54 l (i : Int)).f1).f0 = 30 then some (l.set i ⟨(rd_T54 l (i : Int)).f0, (rd_T54 l (rd_T54 l (i : Int)).f1).f1⟩) else none
def threadFrom (l : List S54) : Nat → Nat → Option (List S54)
  | 0, _ => none
  | k + 1, i => match threadAt l i with
    | some r => some r
    | none => threadFrom l k (i + 1)
/-- The first thing that may be left out is left out. -/
def betterC (l : List S54) : Option (List S54) :=
  match cutFrom l l.length 0 with
  | some r => some (dropC l r.1 r.2)
  | none => threadFrom l l.length 0
/-- Jumps lead on. -/
def Onward (l : List S54) : Prop := ∀ j : Nat, j < l.length → jmp (rd_T54 l (j : Int)) = true → (j : Int) < (rd_T54 l (j : Int)).f1 ∧ (rd_T54 l (j : Int)).f1 ≤ (l.length : Int)
def BetterPost (A : Option Addr) (c : Nat) (l : List S54) (w : World) (e : Ending) (w' : World) : Prop :=
  (∃ m v, betterC l = some m ∧ e = .returned (.tuple #[v, .bool true]) ∧ Kd.R k54 54 w' w.heap.size (fun _ => True) v m ∧ Below w.heap.size w w') ∨
  (betterC l = none ∧ e = .returned (.tuple #[.slice A l.length c, .bool false]) ∧ Below w.heap.size w w')
theorem truths_calls (op : Int) (w : World) : Calls Try.prog 48 #[.int .i64 op] w fun e w' => e = .returned (.bool (truthB op)) ∧ w' = w := by
  by_cases c2 : op = 6
  · subst c2
    go_enter Try.func48, Try.ntmps48
    go_wp2
    go_ret
    exact ⟨rfl, rfl⟩
  · have b2 : (op == 6) = false := beq_eq_false_iff_ne.mpr c2
    by_cases c3 : 12 ≤ op
    · have b3 : decide (12 ≤ op) = true := decide_eq_true c3
      have e : truthB op = decide (op ≤ 17) := by unfold truthB; rw [b2, b3]; simp
      rw [e]
      clear e c2 c3
      go_enter Try.func48, Try.ntmps48
      go_wp2
      go_ret
      exact ⟨rfl, rfl⟩
    · have b3 : decide (12 ≤ op) = false := decide_eq_false c3
      have e : truthB op = false := by unfold truthB; rw [b2, b3]; simp
      rw [e]
      clear e c2 c3
      go_enter Try.func48, Try.ntmps48
      go_wp2
      go_ret
      exact ⟨rfl, rfl⟩
theorem cutFrom_step {l : List S54} {i : Nat} (h : i < l.length) : cutFrom l (l.length - i) i = match cutAt l i with | some r => some r | none => cutFrom l (l.length - (i + 1)) (i + 1) := by
  rw [show l.length - i = (l.length - (i + 1)) + 1 by omega]; rfl
theorem threadFrom_step {l : List S54} {i : Nat} (h : i < l.length) : threadFrom l (l.length - i) i = match threadAt l i with | some r => some r | none => threadFrom l (l.length - (i + 1)) (i + 1) := by
  rw [show l.length - i = (l.length - (i + 1)) + 1 by omega]; rfl
theorem betterC_cut {l : List S54} {r : Nat × Nat} (h : cutFrom l l.length 0 = some r) : betterC l = some (dropC l r.1 r.2) := by unfold betterC; rw [h]
theorem betterC_thread {l : List S54} (h : cutFrom l l.length 0 = none) : betterC l = threadFrom l l.length 0 := by unfold betterC; rw [h]
set_option maxHeartbeats 8000000 in
set_option maxRecDepth 100000 in
theorem better_calls (A : Option Addr) (c : Nat) (l : List S54) (w : World) (hr : Kd.C k54 w A l.length l) (hc : l.length ≤ c) (hl : l.length ≤ 1000000) (hj : Onward l) :
    Calls Try.prog 35 #[.slice A l.length c] w (BetterPost A c l w) := by
  have hjt : ∀ x ∈ l, jmp x = true → 0 ≤ x.f1 ∧ x.f1 ≤ 1000000 := by
    intro x hx hjx
    obtain ⟨j, hjl, rfl⟩ := List.getElem_of_mem hx
    have e : rd_T54 l (j : Int) = l[j] := by simp [rd_T54, List.getD, List.getElem?_eq_getElem hjl]
    have := hj j hjl (by rw [e]; exact hjx)
    rw [e] at this
    omega
  go_enter Try.func35, Try.ntmps35
  go_wp2_with (first | (go_at_call 46; go_loud ((with_reducible refine (targets_calls A c l w hr hc hl hjt).mono ?_); rintro e w1 ⟨b, rfl, hbw, hM1, hb1⟩)))
  go_loopg [14] l.length (fun kq v14 wr => ∃ (i : Nat), v14 = .int .i64 (i : Int) ∧ i ≤ l.length ∧ l.length - i ≤ kq ∧ cutFrom l (l.length - i) i = cutFrom l l.length 0 ∧ LandsAt wr b l ∧ Below w.heap.size w wr)
  case atStart => exact ⟨0, rfl, Nat.zero_le _, by omega, rfl, hM1, hb1⟩
  case round =>
    obtain ⟨i, rfl, hil, hik, hcf, hM, hb⟩ := hrel
    have hbl : b < wr.heap.size := by obtain ⟨_, _, _, ⟨_, _, h, _⟩, _⟩ := hM; exact lt_of_block h
    by_cases hlt : i < l.length
    rotate_left
    · have d1 : decide ((i : Int) < (l.length : Int)) = false := decide_eq_false (by omega)
      have hnone : cutFrom l l.length 0 = none := by rw [← hcf, show l.length - i = 0 by omega]; rfl
      have hbt := betterC_thread hnone
      go_wp2
      go_loopg [98] l.length (fun kq v98 wr => ∃ (i : Nat), v98 = .int .i64 (i : Int) ∧ i ≤ l.length ∧ l.length - i ≤ kq ∧ threadFrom l (l.length - i) i = threadFrom l l.length 0 ∧ Below w.heap.size w wr)
      case atStart => exact ⟨0, rfl, Nat.zero_le _, by omega, rfl, hb⟩
      case round =>
        obtain ⟨i, rfl, hil, hik, hcf, hb⟩ := hrel
        by_cases hlt : i < l.length
        rotate_left
        · have d1 : decide ((i : Int) < (l.length : Int)) = false := decide_eq_false (by omega)
          have hnone2 : betterC l = none := by rw [hbt, ← hcf, show l.length - i = 0 by omega]; rfl
          go_wp2
          go_ret2
          exact .inr ⟨hnone2, rfl, hb⟩
        have d1 : decide ((i : Int) < (l.length : Int)) = true := decide_eq_true (by omega)
        have hrr := Kd.C_below hr hb
        obtain ⟨ad, rfl, hx0, hx1⟩ := at_T54 hrr (i : Int) (by omega) (by omega)
        rw [Int.toNat_natCast] at hx0 hx1
        rw [threadFrom_step hlt] at hcf
        have hji := hj i hlt
        have hth : threadAt l i = if jmp (rd_T54 l (i : Int)) = true ∧ (rd_T54 l (i : Int)).f1 ≠ (l.length : Int) ∧ (rd_T54 l (rd_T54 l (i : Int)).f1).f0 = 30 then some (l.set i ⟨(rd_T54 l (i : Int)).f0, (rd_T54 l (rd_T54 l (i : Int)).f1).f1⟩) else none := rfl
        have hsz2 : w.heap.size ≤ wr.heap.size := hb.size
        revert hx0 hx1 hji hth
        generalize hxe : rd_T54 l (i : Int) = x
        obtain ⟨op, na⟩ := x
        have HX := Lib.hid hxe
        clear hxe
        intro hx0 hx1 hji hth
        simp only at hx0 hx1 hji hth
        cases gk with
        | zero => omega
        | succ gk =>
        have q2 : l.length - (i + 1) ≤ gk := by omega
        have goOn : threadAt l i = none → threadFrom l (l.length - (i + 1)) (i + 1) = threadFrom l l.length 0 := fun h => by rw [h] at hcf; exact hcf
        have hb1 : Below w.heap.size w (wr.alloc (.cells #[.int .i64 op, .int .i64 na] 54)) := hb.alloc hsz2 _
        by_cases c30 : jmp ⟨op, na⟩ = true
        rotate_left
        · have h30 : (op == 30) = false := by cases h : (op == 30) <;> simp [jmp, h] at c30 ⊢
          have h31 : (op == 31) = false := by cases h : (op == 31) <;> simp [jmp, h] at c30 ⊢
          have g30 : (op != 30) = true := by simpa using h30
          have g31 : (op != 31) = true := by simpa using h31
          have hfin := goOn (by rw [hth, if_neg (fun h => c30 h.1)])
          clear hth goOn hcf hji
          go_wp2
          go_roundg gk
          case measure => omega
          case rel => exact ⟨i + 1, by congr 1, by omega, q2, hfin, hb1⟩
        obtain ⟨n0, n1⟩ := hji c30
        obtain ⟨t, rfl⟩ : ∃ t : Nat, na = (t : Int) := ⟨na.toNat, by omega⟩
        have hop : op = 30 ∨ op = 31 := by simpa [jmp] using c30
        by_cases ct : t = l.length
        · have bt : ((t : Int) == (l.length : Int)) = true := beq_iff_eq.2 (by omega)
          have bt2 : (l.length == l.length) = true := beq_self_eq_true _
          have hfin := goOn (by rw [hth, if_neg (fun h => h.2.1 (by omega))])
          clear hth goOn hcf hji
          subst ct
          rcases hop with rfl | rfl
          all_goals (
            go_wp2
            go_roundg gk
            case measure => omega
            case rel => exact ⟨i + 1, by congr 1, by omega, q2, hfin, hb1⟩)
        have bt : ((t : Int) == (l.length : Int)) = false := beq_eq_false_iff_ne.2 (by omega)
        have bt2 : (t == l.length) = false := beq_eq_false_iff_ne.2 (by omega)
        have dt : decide ((t : Int) < (l.length : Int)) = true := decide_eq_true (by omega)
        obtain ⟨ad2, e2, ht0, ht1⟩ := at_T54 (Kd.C_below hr hb1) (t : Int) (by omega) (by omega)
        cases e2
        rw [Int.toNat_natCast] at ht0 ht1
        revert ht0 ht1 hth
        generalize hy : rd_T54 l (t : Int) = y
        obtain ⟨o2, n2⟩ := y
        intro hth ht0 ht1
        simp only at ht0 ht1 hth
        by_cases c2 : o2 = 30
        rotate_left
        · have b2 : (o2 == 30) = false := beq_eq_false_iff_ne.2 c2
          have g2 : (o2 != 30) = true := by simpa using b2
          have hfin := goOn (by rw [hth, if_neg (fun h => c2 h.2.2)])
          clear hth goOn hcf hji
          rcases hop with rfl | rfl
          all_goals (
            go_wp2
            go_roundg gk
            case measure => omega
            case rel => exact ⟨i + 1, by congr 1, by omega, q2, hfin, hb1⟩)
        subst c2
        rw [if_pos ⟨c30, by omega, rfl⟩] at hth
        have hbet : betterC l = some (l.set i ⟨op, n2⟩) := by rw [hbt, ← hcf, hth]
        have HBet : Hid (betterC l = some (l.set i ⟨op, n2⟩)) := hbet
        clear hth goOn hcf hji hbt hbet hnone
        have HY := Lib.hid hy
        clear hy
        rcases hop with rfl | rfl
        all_goals (
          have hcl := clone_calls (some ad) c l _ (Kd.C_below hr hb1) hc hl (fun h => by cases h)
          go_wp2_with (first | (go_at_call 34; go_loud ((with_reducible refine hcl.mono ?_); rintro e w2 ⟨v2, rfl, hR2, hb2⟩; obtain ⟨A2, c2, rfl⟩ := Kd.R_slice hR2; obtain ⟨g, rfl, hg, hgc⟩ := R_at (A := A2) hR2 (by omega); obtain ⟨cs, hcs0, hMM, hcc, hfz⟩ := Kd.R_elem hR2 z54 (i : Int) (by omega) (by omega); have hcs := k54_openM hMM; have hseg := (Kd.R_seg hR2 (i : Int) (by omega) (by omega) hcs0 hcc (seg := [.int .i64 n2]) (j := 1) (Nat.le_refl 2) (x' := ⟨(rd_T54 l (i : Int)).f0, n2⟩) (okp := fun k => True ∧ k ≠ g) (by rw [hcs]; exact k54_mkM _ _ _ ⟨_, _⟩) (fun _ hk => hk)).1; have hc1 := hcc 1 _ (by rw [hcs]; rfl); have hf1 := hfz 1; have e0 : k54.sz = 2 := rfl; simp only [Int.toNat_natCast, e0] at hc1 hf1 hseg; clear hMM hcc hfz hcs e0 hcs0; rw [HX.out] at hseg; have hbx := (hb2.cell (p := ⟨wr.heap.size, 1, none⟩) (by rw [World.size_alloc]; exact Nat.lt_succ_self _)).trans (box54_1 (heap_alloc_new _ _)); have hb3 := below_then hb1 hb1.size hb2; obtain ⟨ad3, e3, hu0, hu1⟩ := at_T54 (Kd.C_below hr hb3) (t : Int) (by omega) (by omega); cases e3; rw [HY.out, Int.toNat_natCast] at hu1; have hgw : w.heap.size ≤ g := Nat.le_trans hb1.size hg; have hgn : g ≠ ad.block := fun e => (by have := block_lt_of_cell ht0; rw [add_block, ← e] at this; omega); clear hu0 hx0 hx1 ht0 ht1 hrr hcl; have HSeg := Lib.hid hseg; clear hseg)))
          go_ret2
          exact .inl ⟨_, _, HBet.out, rfl, Kd.R_move (Kd.R_lower HSeg.out hb1.size) (fun k _ => rfl), hb3.setCell (p := ⟨g, i * 2 + 1, none⟩) hgw _⟩)
    have d1 : decide ((i : Int) < (l.length : Int)) = true := decide_eq_true (by omega)
    have hrr := Kd.C_below hr hb
    obtain ⟨ad, rfl, hx0, hx1⟩ := at_T54 hrr (i : Int) (by omega) (by omega)
    rw [Int.toNat_natCast] at hx0 hx1
    rw [cutFrom_step hlt] at hcf
    have hsz2 : w.heap.size ≤ wr.heap.size := hb.size
    have hct : cutAt l i = if (rd_T54 l (i : Int)).f0 = 30 then (if (rd_T54 l (i : Int)).f1 = (i : Int) + 1 then some (i, 1) else none)
      else if i = 0 then none else if cnt l (i : Int) ≠ 0 then none
      else if (rd_T54 l (i : Int)).f0 = 32 then (if truthB (rd_T54 l ((i - 1 : Nat) : Int)).f0 = true then some (i, 1) else none)
      else if (rd_T54 l (i : Int)).f0 = 31 then (if (rd_T54 l ((i - 1 : Nat) : Int)).f0 = 1 ∧ (rd_T54 l ((i - 1 : Nat) : Int)).f1 ≠ 0 then some (i - 1, 2) else none)
      else none := rfl
    cases gk with
    | zero => omega
    | succ gk =>
    have q2 : l.length - (i + 1) ≤ gk := by omega
    have goOn : cutAt l i = none → cutFrom l (l.length - (i + 1)) (i + 1) = cutFrom l l.length 0 := fun h => by rw [h] at hcf; exact hcf
    have goBet : ∀ a n, cutAt l i = some (a, n) → Hid (betterC l = some (dropC l a n)) := fun a n h => by rw [h] at hcf; exact betterC_cut (r := (a, n)) hcf.symm
    have hdrop : ∀ (W : World) (a n : Nat), 0 < n → a + n ≤ l.length → Below w.heap.size w W → Calls Try.prog 47 #[.slice (some ad) l.length c, .int .i64 (a : Int), .int .i64 (n : Int)] W (fun e w' => ∃ v, e = .returned v ∧ Kd.R k54 54 w' w.heap.size (fun _ => True) v (dropC l a n) ∧ Below w.heap.size w w') :=
      fun W a n h1 h2 hb => (drop_calls (some ad) c l a n W (Kd.C_below hr hb) hc hl h1 h2).mono fun e w' ⟨v, h3, h4, h5⟩ => ⟨v, h3, Kd.R_lower h4 hb.size, below_then hb hb.size h5⟩
    have hdrop1 : ∀ (W : World) (a : Nat), a + 1 ≤ l.length → Below w.heap.size w W → Calls Try.prog 47 #[.slice (some ad) l.length c, .int .i64 (a : Int), .int .i64 1] W (fun e w' => ∃ v, e = .returned v ∧ Kd.R k54 54 w' w.heap.size (fun _ => True) v (dropC l a 1) ∧ Below w.heap.size w w') := fun W a h hb => hdrop W a 1 (by decide) h hb
    have hdrop2 : ∀ (W : World) (a : Nat), a + 2 ≤ l.length → Below w.heap.size w W → Calls Try.prog 47 #[.slice (some ad) l.length c, .int .i64 (a : Int), .int .i64 2] W (fun e w' => ∃ v, e = .returned v ∧ Kd.R k54 54 w' w.heap.size (fun _ => True) v (dropC l a 2) ∧ Below w.heap.size w w') := fun W a h hb => hdrop W a 2 (by decide) h hb
    have HD1 := Lib.hid hdrop1
    have HD2 := Lib.hid hdrop2
    clear hdrop hdrop1 hdrop2 hcf
    revert hx0 hx1 hct
    generalize rd_T54 l (i : Int) = x
    obtain ⟨op, na⟩ := x
    intro hx0 hx1 hct
    simp only at hx0 hx1 hct
    have hb1 : Below w.heap.size w (wr.alloc (.cells #[.int .i64 op, .int .i64 na] 54)) := hb.alloc hsz2 _
    have hM1 : LandsAt (wr.alloc (.cells #[.int .i64 op, .int .i64 na] 54)) b l := hM.move (Below.heap_alloc _ _ _ hbl)
    by_cases c30 : op = 30
    · subst c30
      rw [if_pos rfl] at hct
      by_cases cn : na = (i : Int) + 1
      · subst cn
        rw [if_pos rfl] at hct
        have HB := goBet _ _ hct
        clear hct goOn goBet
        go_wp2_with (first | (go_at_call 47; go_loud ((with_reducible refine (HD1.out _ i (by omega) hb1).mono ?_); rintro e w2 ⟨v2, rfl, hR2, hb2⟩)))
        go_ret2
        exact .inl ⟨_, _, HB.out, rfl, hR2, hb2⟩
      · rw [if_neg cn] at hct
        have bn : (na == (i : Int) + 1) = false := beq_eq_false_iff_ne.2 cn
        have hfin := goOn hct
        clear hct goOn goBet cn
        go_wp2
        go_roundg gk
        case measure => omega
        case rel => exact ⟨i + 1, by congr 1, by omega, q2, hfin, hM1, hb1⟩
    have b30 : (op == 30) = false := beq_eq_false_iff_ne.2 c30
    rw [if_neg c30] at hct
    by_cases c0 : i = 0
    · rw [if_pos c0] at hct
      have hfin := goOn hct
      have dz : decide ((0 : Int) < (i : Int)) = false := decide_eq_false (by omega)
      have dz2 : decide (0 < i) = false := decide_eq_false (by omega)
      clear hct goOn goBet c30 c0
      by_cases c32 : op = 32
      · subst c32
        go_wp2
        go_roundg gk
        case measure => omega
        case rel => exact ⟨i + 1, by congr 1, by omega, q2, hfin, hM1, hb1⟩
      · have b32 : (op == 32) = false := beq_eq_false_iff_ne.2 c32
        by_cases c31 : op = 31
        · subst c31
          go_wp2
          go_roundg gk
          case measure => omega
          case rel => exact ⟨i + 1, by congr 1, by omega, q2, hfin, hM1, hb1⟩
        · have b31 : (op == 31) = false := beq_eq_false_iff_ne.2 c31
          go_wp2
          go_roundg gk
          case measure => omega
          case rel => exact ⟨i + 1, by congr 1, by omega, q2, hfin, hM1, hb1⟩
    rw [if_neg c0] at hct
    have dz : decide ((0 : Int) < (i : Int)) = true := decide_eq_true (by omega)
    have dz2 : decide (0 < i) = true := decide_eq_true (by omega)
    by_cases c3 : op = 32 ∨ op = 31
    rotate_left
    · have b32 : (op == 32) = false := beq_eq_false_iff_ne.2 (fun h => c3 (.inl h))
      have b31 : (op == 31) = false := beq_eq_false_iff_ne.2 (fun h => c3 (.inr h))
      have hfin := goOn (by rw [hct]; split; rfl; rw [if_neg (fun h => c3 (.inl h)), if_neg (fun h => c3 (.inr h))])
      clear hct goOn goBet c30 c3
      go_wp2
      go_roundg gk
      case measure => omega
      case rel => exact ⟨i + 1, by congr 1, by omega, q2, hfin, hM1, hb1⟩
    obtain ⟨n, D, hn, hown, hD⟩ := hM1
    have hM1 : LandsAt (wr.alloc (.cells #[.int .i64 op, .int .i64 na] 54)) b l := ⟨n, D, hn, hown, hD⟩
    have hwf : (Lit.int .i64 (i : Int)).wf = true := by
      have e : (i : Int) = wrap64 (i : Int) := by unfold wrap64; omega
      rw [e]
      exact wrap64_wf _
    have HKey : Hid (keyOf Try.prog 3 (.int .i64 (i : Int)) = some (.int .i64 (i : Int))) := keyOf_int_mk Try.underlying3 hwf
    clear hwf
    have HD := Lib.hid hD
    clear hD
    by_cases hz : cnt l (i : Int) ≠ 0
    · rw [if_pos hz] at hct
      have hfin := goOn hct
      clear hct goOn goBet c30
      rcases c3 with rfl | rfl
      all_goals (
        go_wp2_with (first | ((at_lookup; go_loud (refine gate_guard (by rfl) ?_; dsimp only; refine wpList_lookup_own_int _ rfl _ _ 77 rfl 3 3 .i64 law3m Try.underlying77 Try.underlying3 (zero3m _) b n _ rfl hown _ _ rfl HKey.out ?_; intro cc hat hwc; rw [HD.out] at hat; injection hat with hat; injection hat with _ hat)); have bz : (cc == 0) = false := beq_eq_false_iff_ne.2 (by omega)))
        go_roundg gk
        case measure => omega
        case rel => exact ⟨i + 1, by congr 1, by omega, q2, hfin, hM1, hb1⟩)
    rw [if_neg hz] at hct
    obtain ⟨t, ht⟩ : ∃ t, t = i - 1 := ⟨_, rfl⟩
    rw [← ht] at hct
    have et : (i : Int) - 1 = (t : Int) := by omega
    obtain ⟨ad2, e2, hp0, hp1⟩ := at_T54 (Kd.C_below hr hb1) (t : Int) (by omega) (by omega)
    cases e2
    rw [Int.toNat_natCast] at hp0 hp1
    have hz0 : cnt l (i : Int) = 0 := by omega
    have hti : t < i := by omega
    clear ht
    have HZ := Lib.hid hz0
    clear hz hz0
    have dt : decide ((t : Int) < (l.length : Int)) = true := decide_eq_true (by omega)
    revert hct hp0 hp1
    generalize rd_T54 l (t : Int) = y
    obtain ⟨o2, n2⟩ := y
    intro hct hp0 hp1
    simp only at hp0 hp1 hct
    rcases c3 with rfl | rfl
    · rw [if_pos rfl] at hct
      by_cases htr : truthB o2 = true
      · rw [if_pos htr] at hct
        have HB := goBet _ _ hct
        clear hct goOn goBet c30 c0
        go_wp2_with (first | ((at_lookup; go_loud (refine gate_guard (by rfl) ?_; dsimp only; refine wpList_lookup_own_int _ rfl _ _ 77 rfl 3 3 .i64 law3m Try.underlying77 Try.underlying3 (zero3m _) b n _ rfl hown _ _ rfl HKey.out ?_; intro cc hat hwc; rw [HD.out] at hat; injection hat with hat; injection hat with _ hat)); obtain rfl : cc = 0 := (by have := HZ.out; omega); clear hat hwc) | (go_at_call 48; (with_reducible refine (truths_calls _ _).mono ?_); rintro e w3 ⟨rfl, rfl⟩) | (go_at_call 47; go_loud ((with_reducible refine (HD1.out _ i (by omega) hb1).mono ?_); rintro e w2 ⟨v2, rfl, hR2, hb2⟩)))
        go_ret2
        exact .inl ⟨_, _, HB.out, rfl, hR2, hb2⟩
      · have ftr : truthB o2 = false := by simpa using htr
        rw [if_neg htr] at hct
        have hfin := goOn hct
        clear hct goOn goBet c30 c0 htr
        go_wp2_with (first | ((at_lookup; go_loud (refine gate_guard (by rfl) ?_; dsimp only; refine wpList_lookup_own_int _ rfl _ _ 77 rfl 3 3 .i64 law3m Try.underlying77 Try.underlying3 (zero3m _) b n _ rfl hown _ _ rfl HKey.out ?_; intro cc hat hwc; rw [HD.out] at hat; injection hat with hat; injection hat with _ hat)); obtain rfl : cc = 0 := (by have := HZ.out; omega); clear hat hwc) | (go_at_call 48; (with_reducible refine (truths_calls _ _).mono ?_); rintro e w3 ⟨rfl, rfl⟩))
        go_roundg gk
        case measure => omega
        case rel => exact ⟨i + 1, by congr 1, by omega, q2, hfin, hM1, hb1⟩
    · rw [if_neg (by decide), if_pos rfl] at hct
      by_cases cp : o2 = 1
      rotate_left
      · rw [if_neg (fun h => cp h.1)] at hct
        have bp : (o2 == 1) = false := beq_eq_false_iff_ne.2 cp
        have hfin := goOn hct
        clear hct goOn goBet c30 c0 cp
        go_wp2_with (first | ((at_lookup; go_loud (refine gate_guard (by rfl) ?_; dsimp only; refine wpList_lookup_own_int _ rfl _ _ 77 rfl 3 3 .i64 law3m Try.underlying77 Try.underlying3 (zero3m _) b n _ rfl hown _ _ rfl HKey.out ?_; intro cc hat hwc; rw [HD.out] at hat; injection hat with hat; injection hat with _ hat)); obtain rfl : cc = 0 := (by have := HZ.out; omega); clear hat hwc))
        go_roundg gk
        case measure => omega
        case rel => exact ⟨i + 1, by congr 1, by omega, q2, hfin, hM1, hb1⟩
      subst cp
      by_cases cq : n2 = 0
      · rw [if_neg (fun h => h.2 cq)] at hct
        subst cq
        have hfin := goOn hct
        clear hct goOn goBet c30 c0
        go_wp2_with (first | ((at_lookup; go_loud (refine gate_guard (by rfl) ?_; dsimp only; refine wpList_lookup_own_int _ rfl _ _ 77 rfl 3 3 .i64 law3m Try.underlying77 Try.underlying3 (zero3m _) b n _ rfl hown _ _ rfl HKey.out ?_; intro cc hat hwc; rw [HD.out] at hat; injection hat with hat; injection hat with _ hat)); obtain rfl : cc = 0 := (by have := HZ.out; omega); clear hat hwc))
        go_roundg gk
        case measure => omega
        case rel => exact ⟨i + 1, by congr 1, by omega, q2, hfin, hM1, hb1⟩
      · rw [if_pos ⟨rfl, cq⟩] at hct
        have bq : (n2 == 0) = false := beq_eq_false_iff_ne.2 cq
        have bq2 : (n2 != 0) = true := bne_iff_ne.2 cq
        have HB := goBet _ _ hct
        clear hct goOn goBet c30 c0 cq
        go_wp2_with (first | ((at_lookup; go_loud (refine gate_guard (by rfl) ?_; dsimp only; refine wpList_lookup_own_int _ rfl _ _ 77 rfl 3 3 .i64 law3m Try.underlying77 Try.underlying3 (zero3m _) b n _ rfl hown _ _ rfl HKey.out ?_; intro cc hat hwc; rw [HD.out] at hat; injection hat with hat; injection hat with _ hat)); obtain rfl : cc = 0 := (by have := HZ.out; omega); clear hat hwc) | (go_at_call 47; go_loud ((with_reducible refine (HD2.out _ t (by omega) hb1).mono ?_); rintro e w2 ⟨v2, rfl, hR2, hb2⟩)))
        go_ret2
        exact .inl ⟨_, _, HB.out, rfl, hR2, hb2⟩
end Go.Proofs.Ytekbcfgcojecmaa.P
