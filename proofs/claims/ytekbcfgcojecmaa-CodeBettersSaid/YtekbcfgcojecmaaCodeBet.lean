/- Better code: the walks of the laws CodeBetters and CodeKeeps, and of the document's Better, out of the plain laws. No condition. -/
import Derived.Test.YtekbcfgcojecmaaBetB
import Derived.Lib.Hide
import Derived.StillTailTactics
import Derived.Test.YtekbcfgcojecmaaF13
import Derived.Test.YtekbcfgcojecmaaF18
import Derived.Test.YtekbcfgcojecmaaCodeRuns
namespace Go.Proofs.Ytekbcfgcojecmaa.P
set_option linter.unusedVariables false
set_option linter.unusedSimpArgs false
section
open Go.RowKit Go.Maps Go.Proofs.YtekbcfgcojecmaaW.PrintWords Go.Proofs.YtekbcfgcojecmaaW.PrintLast Go.Proofs.YtekbcfgcojecmaaW.PrintMore
theorem jumps_true {op na : Int} (h : jmp ⟨op, na⟩ = true) (w : World) : Calls Try.prog 26 #[.agg #[.int .i64 op, .int .i64 na]] w fun e w' => e = .returned (.bool true) ∧ Below w.heap.size w w' := headgateref22_jumps.calls op na true w (by rw [rjumps, h])
theorem jumps_false {op na : Int} (h : jmp ⟨op, na⟩ = false) (w : World) : Calls Try.prog 26 #[.agg #[.int .i64 op, .int .i64 na]] w fun e w' => e = .returned (.bool false) ∧ Below w.heap.size w w' := headgateref22_jumps.calls op na false w (by rw [rjumps, h])
theorem box_after {W w2 : World} {x y : Value} (hb : Below (W.alloc (.cells #[x, y] 54)).heap.size (W.alloc (.cells #[x, y] 54)) w2) : w2.cell? ⟨W.heap.size, 0, none⟩ = some x ∧ w2.cell? ⟨W.heap.size, 1, none⟩ = some y ∧ W.heap.size < w2.heap.size := by
  have hs : W.heap.size < (W.alloc (.cells #[x, y] 54)).heap.size := by rw [World.size_alloc]; exact Nat.lt_succ_self _
  exact ⟨(hb.cell (p := ⟨W.heap.size, 0, none⟩) hs).trans (box54_0 (heap_alloc_new _ _)), (hb.cell (p := ⟨W.heap.size, 1, none⟩) hs).trans (box54_1 (heap_alloc_new _ _)), Nat.lt_of_lt_of_le hs hb.size⟩
set_option maxHeartbeats 8000000 in
set_option maxRecDepth 100000 in
theorem once_calls (A : Option Addr) (c : Nat) (l : List S54) (w : World) (hr : Kd.C k54 w A l.length l) (hc : l.length ≤ c) (hl : l.length ≤ 100000) (hj : Onward l) :
    Calls Try.prog 36 #[.slice A l.length c] w (BetterPost A c l w) := by
  have hb0 := Below.refl w.heap.size w
  go_enter Try.func36, Try.ntmps36
  go_wp2
  go_loopg [4] l.length (fun kq v4 wr => ∃ (i : Nat), v4 = .int .i64 (i : Int) ∧ i ≤ l.length ∧ l.length - i ≤ kq ∧ cutFrom l (l.length - i) i = cutFrom l l.length 0 ∧ Below w.heap.size w wr)
  case atStart => exact ⟨0, rfl, Nat.zero_le _, by omega, rfl, hb0⟩
  case round =>
    obtain ⟨i, rfl, hil, hik, hcf, hb⟩ := hrel
    by_cases hlt : i < l.length
    rotate_left
    · have d1 : decide ((i : Int) < (l.length : Int)) = false := decide_eq_false (by omega)
      have hnone : cutFrom l l.length 0 = none := by rw [← hcf, show l.length - i = 0 by omega]; rfl
      have hbt := betterC_thread hnone
      clear hcf hik
      go_wp2
      go_loopg [7] l.length (fun kq v7 wr => ∃ (i : Nat), v7 = .int .i64 (i : Int) ∧ i ≤ l.length ∧ l.length - i ≤ kq ∧ threadFrom l (l.length - i) i = threadFrom l l.length 0 ∧ Below w.heap.size w wr)
      case atStart => exact ⟨0, rfl, Nat.zero_le _, by omega, rfl, hb⟩
      case round =>
        obtain ⟨i, rfl, hil, hik, hcf, hb⟩ := hrel
        by_cases hlt : i < l.length
        rotate_left
        · have d1 : decide ((i : Int) < (l.length : Int)) = false := decide_eq_false (by omega)
          have hnone2 : betterC l = none := by rw [hbt, ← hcf, show l.length - i = 0 by omega]; rfl
          have HN := Lib.hid hnone2
          clear hnone2 hbt hcf hnone
          go_wp2
          go_ret2
          exact .inr ⟨HN.out, rfl, hb⟩
        have d1 : decide ((i : Int) < (l.length : Int)) = true := decide_eq_true (by omega)
        have hrr := Kd.C_below hr hb
        obtain ⟨ad, rfl, hx0, hx1⟩ := at_T54 hrr (i : Int) (by omega) (by omega)
        rw [Int.toNat_natCast] at hx0 hx1
        rw [threadFrom_step hlt] at hcf
        have hji := hj i hlt
        have hth : threadAt l i = if jmp (rd_T54 l (i : Int)) = true ∧ (rd_T54 l (i : Int)).f1 ≠ (l.length : Int) ∧ (rd_T54 l (rd_T54 l (i : Int)).f1).f0 = 30 then some (l.set i ⟨(rd_T54 l (i : Int)).f0, (rd_T54 l (rd_T54 l (i : Int)).f1).f1⟩) else none := rfl
        have hsz2 : w.heap.size ≤ wr.heap.size := hb.size
        have hrl := fun W (h : Below w.heap.size w W) => at_T54 (Kd.C_below hr h) (i : Int) (by omega) (by omega)
        simp only [Int.toNat_natCast] at hrl
        revert hx0 hx1 hji hth hrl
        generalize hxe : rd_T54 l (i : Int) = x
        obtain ⟨op, na⟩ := x
        have HX := Lib.hid hxe
        clear hxe
        intro hx0 hx1 hji hth hrl
        simp only at hx0 hx1 hji hth hrl
        have HRL := Lib.hid hrl
        clear hrl
        cases gk with
        | zero => omega
        | succ gk =>
        have q2 : l.length - (i + 1) ≤ gk := by omega
        have goOn : threadAt l i = none → threadFrom l (l.length - (i + 1)) (i + 1) = threadFrom l l.length 0 := fun h => by rw [h] at hcf; exact hcf
        cases c30 : jmp ⟨op, na⟩ with
        | false =>
          have hfin := goOn (by rw [hth, if_neg (fun h => by rw [c30] at h; exact absurd h.1 (by decide))])
          have hcall := jumps_false c30 wr
          clear hth goOn hcf hji c30 hnone hbt
          go_wp2_with (first | (go_at_call 26; go_loud ((with_reducible refine hcall.mono ?_); rintro e w1 ⟨rfl, hb1⟩)))
          go_roundg gk
          case measure => omega
          case rel => exact ⟨i + 1, by congr 1, by omega, q2, hfin, below_then hb hsz2 hb1⟩
        | true =>
        obtain ⟨n0, n1⟩ := hji c30
        obtain ⟨t, rfl⟩ : ∃ t : Nat, na = (t : Int) := ⟨na.toNat, by omega⟩
        have hcall := jumps_true c30 wr
        by_cases ct : t = l.length
        · have bt : decide ((t : Int) < (l.length : Int)) = false := decide_eq_false (by omega)
          have bt2 : decide (t < l.length) = false := decide_eq_false (by omega)
          have bt3 : ¬ t < l.length := by omega
          have hfin := goOn (by rw [hth, if_neg (fun h => h.2.1 (by omega))])
          clear hth goOn hcf hji c30 hnone hbt ct
          go_wp2_with (first | (go_at_call 26; go_loud ((with_reducible refine hcall.mono ?_); rintro e w1 ⟨rfl, hb1⟩; have hb2 := below_then hb hsz2 hb1; obtain ⟨ad3, e3, hu0, hu1⟩ := HRL.out w1 hb2; cases e3)))
          go_roundg gk
          case measure => omega
          case rel => exact ⟨i + 1, by congr 1, by omega, q2, hfin, hb2⟩
        have dt : decide ((t : Int) < (l.length : Int)) = true := decide_eq_true (by omega)
        have dt2 : decide (t < l.length) = true := decide_eq_true (by omega)
        have dt3 : t < l.length := by omega
        have hrt := fun W (h : Below w.heap.size w W) => at_T54 (Kd.C_below hr h) (t : Int) (by omega) (by omega)
        simp only [Int.toNat_natCast] at hrt
        revert hth hrt
        generalize hy : rd_T54 l (t : Int) = y
        obtain ⟨o2, n2⟩ := y
        intro hth hrt
        simp only at hth hrt
        have HRT := Lib.hid hrt
        clear hrt hy
        by_cases c2 : o2 = 30
        rotate_left
        · have b2 : (o2 == 30) = false := beq_eq_false_iff_ne.2 c2
          have hfin := goOn (by rw [hth, if_neg (fun h => c2 h.2.2)])
          clear hth goOn hcf hji c30 hnone hbt ct c2
          go_wp2_with (first | (go_at_call 26; go_loud ((with_reducible refine hcall.mono ?_); rintro e w1 ⟨rfl, hb1⟩; have hb2 := below_then hb hsz2 hb1; obtain ⟨ad3, e3, hu0, hu1⟩ := HRL.out w1 hb2; cases e3; obtain ⟨ad4, e4, hv0, hv1⟩ := HRT.out w1 hb2; cases e4)))
          go_roundg gk
          case measure => omega
          case rel => exact ⟨i + 1, by congr 1, by omega, q2, hfin, hb2⟩
        subst c2
        rw [if_pos ⟨c30, by omega, rfl⟩] at hth
        have hbet : betterC l = some (l.set i ⟨op, n2⟩) := by rw [hbt, ← hcf, hth]
        have HBet : Hid (betterC l = some (l.set i ⟨op, n2⟩)) := hbet
        clear hth goOn hcf hji hbt hbet hnone c30
        go_wp2_with (first | (go_at_call 26; go_loud ((with_reducible refine hcall.mono ?_); rintro e w1 ⟨rfl, hb1⟩; have hb2 := below_then hb hsz2 hb1; obtain ⟨ad3, e3, hu0, hu1⟩ := HRL.out w1 hb2; cases e3; obtain ⟨ad4, e4, hv0, hv1⟩ := HRT.out w1 hb2; cases e4)) | (at_builtin; go_loud (refine Kd.R_append_rows k54 (w0 := w) w.heap.size rfl (.tmp 115) (.tmp 116) 22 54 (.agg #[(.int .i64 0), (.int .i64 0)]) 16 rfl Try.underlying22 info54 rfl (by decide) (by omega) (.slice none 0 0) [] l _ _ _ (fun _ => True) (fun _ => False) rfl rfl (Kd.R_nil _ _ _ _ _) (Kd.C_below hr hb2) (fun _ _ h => by obtain rfl := k54_open h; exact k54_mkM _ _ _ _) (fun _ h => h.elim) (fun _ _ => trivial) hb2 hb2.size ?aL ?_; (case aL => simp; omega); intro v1 w3 ho hb3 hg hat; rw [List.nil_append] at ho)))
        have hv1e : v1.ownBlock ≠ none := fun e => by
          obtain ⟨A9, c9, rfl, _, h9⟩ := Kd.R_reads ho
          obtain ⟨ad9, e9, _, _⟩ := at_T54 h9 (i : Int) (by omega) (by omega)
          rw [e9] at e
          cases e
        obtain ⟨A2, c2, rfl⟩ := Kd.R_slice ho
        obtain ⟨g, rfl, hg2, hgc⟩ := R_at (A := A2) ho (by omega)
        have hgw1 : w1.heap.size ≤ g := by
          rcases hat with h | ⟨b, h, h2⟩
          · exact absurd h hv1e
          · obtain rfl : g = b := Option.some.inj h
            exact h2
        have hgn : g ≠ ad.block := fun e => (by have := block_lt_of_cell hu0; rw [add_block, ← e] at this; omega)
        obtain ⟨cs, hcs0, hMM, hcc, hfz⟩ := Kd.R_elem ho z54 (i : Int) (by omega) (by omega)
        have hcs := k54_openM hMM
        have hseg := (Kd.R_seg ho (i : Int) (by omega) (by omega) hcs0 hcc (seg := [.int .i64 op, .int .i64 n2]) (j := 0) (Nat.le_refl 2) (x' := ⟨op, n2⟩) (okp := fun k => True ∧ k ≠ g) (by rw [hcs]; exact k54_mkM _ _ _ ⟨_, _⟩) (fun _ hk => hk)).1
        have hc0 := hcc 0 _ (by rw [hcs]; rfl)
        have hc1 := hcc 1 _ (by rw [hcs]; rfl)
        have hf0 := hfz 0
        have hf1 := hfz 1
        have e0 : k54.sz = 2 := rfl
        simp only [Int.toNat_natCast, e0, Nat.add_zero] at hc0 hc1 hf0 hf1 hseg
        obtain ⟨ad5, e5, hs0, hs1⟩ := HRL.out w3 hb3
        cases e5
        obtain ⟨ad6, e6, ht0, ht1⟩ := HRT.out w3 hb3
        cases e6
        have HSeg := Lib.hid hseg
        clear hseg hMM hcc hfz hcs hcs0 e0 hat hg hv1e hu0 hu1 hv0 hv1 hx0 hx1 hrr hcall
        go_region
        go_wp2
        go_ret2
        exact .inl ⟨_, _, HBet.out, rfl, Kd.R_move HSeg.out (fun k _ => rfl), ((hb3.setCell (p := ⟨g, i * 2, none⟩) hg2 _).setCell (p := ⟨g, i * 2 + 1, none⟩) hg2 _).drew⟩
    have d1 : decide ((i : Int) < (l.length : Int)) = true := decide_eq_true (by omega)
    have hrr := Kd.C_below hr hb
    obtain ⟨ad, rfl, hx0, hx1⟩ := at_T54 hrr (i : Int) (by omega) (by omega)
    rw [Int.toNat_natCast] at hx0 hx1
    rw [cutFrom_step hlt] at hcf
    have hsz2 : w.heap.size ≤ wr.heap.size := hb.size
    have hct : cutAt l i = if (rd_T54 l (i : Int)).f0 = 30 then (if (rd_T54 l (i : Int)).f1 = (i : Int) + 1 then some (i, 1) else none)
      else if i = 0 then none else if cnt l (i : Int) ≠ 0 then none
      else if (rd_T54 l (i : Int)).f0 = 32 then (if truthB (rd_T54 l ((i - 1 : Nat) : Int)).f0 = true then some (i, 1) else none)
      else if (rd_T54 l (i : Int)).f0 = 31 then (if (rd_T54 l ((i - 1 : Nat) : Int)).f0 = 1 ∧ (rd_T54 l ((i - 1 : Nat) : Int)).f1 ≠ 0 then some (i - 1, 2) else none)
      else none := rfl
    cases gk with
    | zero => omega
    | succ gk =>
    have q2 : l.length - (i + 1) ≤ gk := by omega
    have goOn : cutAt l i = none → cutFrom l (l.length - (i + 1)) (i + 1) = cutFrom l l.length 0 := fun h => by rw [h] at hcf; exact hcf
    have goBet : ∀ a n, cutAt l i = some (a, n) → Hid (betterC l = some (dropC l a n)) := fun a n h => by rw [h] at hcf; exact betterC_cut (r := (a, n)) hcf.symm
    have hdrop : ∀ (W : World) (a n : Nat), 0 < n → a + n ≤ l.length → Below w.heap.size w W → Calls Try.prog 49 #[.slice (some ad) l.length c, .int .i64 (a : Int), .int .i64 (n : Int)] W (fun e w' => ∃ v, e = .returned v ∧ Kd.R k54 54 w' w.heap.size (fun _ => True) v (dropC l a n) ∧ Below w.heap.size w w') := by
      intro W a n h1 h2 hb
      obtain ⟨k, hk⟩ := (without_ev l a n hl hj h1 h2).rounds
      exact (headgateref22_without.calls k (some ad) c l (a : Int) (n : Int) _ W (Kd.C_below hr hb) hc hk).mono fun e w' ⟨v, h3, h4, h5⟩ => ⟨v, h3, Kd.R_lower h4 hb.size, below_then hb hb.size h5⟩
    have hdrop1 : ∀ (W : World) (a : Nat), a + 1 ≤ l.length → Below w.heap.size w W → Calls Try.prog 49 #[.slice (some ad) l.length c, .int .i64 (a : Int), .int .i64 1] W (fun e w' => ∃ v, e = .returned v ∧ Kd.R k54 54 w' w.heap.size (fun _ => True) v (dropC l a 1) ∧ Below w.heap.size w w') := fun W a h hb => hdrop W a 1 (by decide) h hb
    have hdrop2 : ∀ (W : World) (a : Nat), a + 2 ≤ l.length → Below w.heap.size w W → Calls Try.prog 49 #[.slice (some ad) l.length c, .int .i64 (a : Int), .int .i64 2] W (fun e w' => ∃ v, e = .returned v ∧ Kd.R k54 54 w' w.heap.size (fun _ => True) v (dropC l a 2) ∧ Below w.heap.size w w') := fun W a h hb => hdrop W a 2 (by decide) h hb
    have HD1 := Lib.hid hdrop1
    have HD2 := Lib.hid hdrop2
    clear hdrop hdrop1 hdrop2 hcf
    revert hx0 hx1 hct
    generalize rd_T54 l (i : Int) = x
    obtain ⟨op, na⟩ := x
    intro hx0 hx1 hct
    simp only at hx0 hx1 hct
    have hb1 : Below w.heap.size w (wr.alloc (.cells #[.int .i64 op, .int .i64 na] 54)) := hb.alloc hsz2 _
    by_cases cn : op = 30 ∧ na = (i : Int) + 1
    · obtain ⟨rfl, rfl⟩ := cn
      rw [if_pos rfl, if_pos rfl] at hct
      have HB := goBet _ _ hct
      clear hct goOn goBet
      go_wp2_with (first | (go_at_call 49; go_loud ((with_reducible refine (HD1.out _ i (by omega) hb1).mono ?_); rintro e w2 ⟨v2, rfl, hR2, hb2⟩)))
      go_ret2
      exact .inl ⟨_, _, HB.out, rfl, hR2, hb2⟩
    have hct2 : cutAt l i = if i = 0 then none else if cnt l (i : Int) ≠ 0 then none
      else if op = 32 then (if truthB (rd_T54 l ((i - 1 : Nat) : Int)).f0 = true then some (i, 1) else none)
      else if op = 31 then (if (rd_T54 l ((i - 1 : Nat) : Int)).f0 = 1 ∧ (rd_T54 l ((i - 1 : Nat) : Int)).f1 ≠ 0 then some (i - 1, 2) else none)
      else none := by
      rw [hct]
      by_cases c : op = 30
      · rw [if_pos c, if_neg (fun h => cn ⟨c, h⟩), if_neg (show ¬ op = 32 by omega), if_neg (show ¬ op = 31 by omega)]
        split
        · rfl
        · split <;> rfl
      · rw [if_neg c]
    clear hct
    have hct := hct2
    clear hct2
    -- ahead of the look at the jumps
    by_cases c0 : i = 0
    · rw [if_pos c0] at hct
      have hfin := goOn hct
      have ez : ((i : Int) == 0) = true := beq_iff_eq.2 (by omega)
      have ez2 : (i == 0) = true := beq_iff_eq.2 c0
      by_cases c30 : op = 30
      · subst c30
        have bn : (na == (i : Int) + 1) = false := beq_eq_false_iff_ne.2 (fun h => cn ⟨rfl, h⟩)
        clear hct goOn goBet cn
        clear c0
        go_wp2
        go_roundg gk
        case measure => omega
        case rel => exact ⟨i + 1, by congr 1, by omega, q2, hfin, hb1⟩
      · have b30 : (op == 30) = false := beq_eq_false_iff_ne.2 c30
        clear hct goOn goBet cn c30
        clear c0
        go_wp2
        go_roundg gk
        case measure => omega
        case rel => exact ⟨i + 1, by congr 1, by omega, q2, hfin, hb1⟩
    rw [if_neg c0] at hct
    have ez : ((i : Int) == 0) = false := beq_eq_false_iff_ne.2 (by omega)
    have ez2 : (i == 0) = false := beq_eq_false_iff_ne.2 c0
    obtain ⟨kl, hkl⟩ := (lands_ev l (i : Int) (by omega)).rounds
    have HKL := Lib.hid hkl
    clear hkl
    by_cases hz : cnt l (i : Int) ≠ 0
    · rw [if_pos hz] at hct
      have hfin := goOn hct
      have hlc := headgateref22_lands.calls kl (some ad) c l (i : Int) true _ (Kd.C_below hr hb1) hc (by rw [HKL.out, decide_eq_true hz])
      by_cases c30 : op = 30
      · subst c30
        have bn : (na == (i : Int) + 1) = false := beq_eq_false_iff_ne.2 (fun h => cn ⟨rfl, h⟩)
        clear hct goOn goBet cn hz c0
        go_wp2_with (first | (go_at_call 50; go_loud ((with_reducible refine hlc.mono ?_); rintro e w2 ⟨rfl, hb2⟩; have hb3 := below_then hb1 hb1.size hb2)))
        go_roundg gk
        case measure => omega
        case rel => exact ⟨i + 1, by congr 1, by omega, q2, hfin, hb3⟩
      · have b30 : (op == 30) = false := beq_eq_false_iff_ne.2 c30
        clear hct goOn goBet cn hz c0 c30
        go_wp2_with (first | (go_at_call 50; go_loud ((with_reducible refine hlc.mono ?_); rintro e w2 ⟨rfl, hb2⟩; have hb3 := below_then hb1 hb1.size hb2)))
        go_roundg gk
        case measure => omega
        case rel => exact ⟨i + 1, by congr 1, by omega, q2, hfin, hb3⟩
    rw [if_neg hz] at hct
    have hlc := headgateref22_lands.calls kl (some ad) c l (i : Int) false _ (Kd.C_below hr hb1) hc (by rw [HKL.out, decide_eq_false hz])
    obtain ⟨t, ht⟩ : ∃ t, t = i - 1 := ⟨_, rfl⟩
    rw [← ht] at hct
    have et : (i : Int) - 1 = (t : Int) := by omega
    have hti : t < i := by omega
    have dt : decide ((t : Int) < (l.length : Int)) = true := decide_eq_true (by omega)
    have hrt := fun W (h : Below w.heap.size w W) => at_T54 (Kd.C_below hr h) (t : Int) (by omega) (by omega)
    simp only [Int.toNat_natCast] at hrt
    revert hct hrt
    generalize rd_T54 l (t : Int) = y
    obtain ⟨o2, n2⟩ := y
    intro hct hrt
    simp only at hrt hct
    have HRT := Lib.hid hrt
    clear hrt ht
    have bn30 : op = 30 → (na == (i : Int) + 1) = false := fun h => beq_eq_false_iff_ne.2 (fun h2 => cn ⟨h, h2⟩)
    by_cases c3 : op = 32 ∨ op = 31
    rotate_left
    · have b32 : (op == 32) = false := beq_eq_false_iff_ne.2 (fun h => c3 (.inl h))
      have b31 : (op == 31) = false := beq_eq_false_iff_ne.2 (fun h => c3 (.inr h))
      have hfin := goOn (by rw [hct, if_neg (fun h => c3 (.inl h)), if_neg (fun h => c3 (.inr h))])
      by_cases c30 : op = 30
      · subst c30
        have bn := bn30 rfl
        clear hct goOn goBet cn hz c0 c3 bn30
        go_wp2_with (first | (go_at_call 50; go_loud ((with_reducible refine hlc.mono ?_); rintro e w2 ⟨rfl, hb2⟩; have hb3 := below_then hb1 hb1.size hb2; obtain ⟨hbx0, hbx1, hbxl⟩ := box_after hb2; obtain ⟨ad5, e5, hs0, hs1⟩ := HRT.out w2 hb3; cases e5; have hne : wr.heap.size ≠ w2.heap.size := Nat.ne_of_lt hbxl; have hb4 : ∀ o, Below w.heap.size w (w2.alloc o) := fun o => hb3.alloc hb3.size o)) | (go_at_call 49; go_loud ((first | (with_reducible refine (HD1.out _ i (by omega) (hb4 _)).mono ?_) | (with_reducible refine (HD2.out _ t (by omega) (hb4 _)).mono ?_)); rintro e w5 ⟨v2, rfl, hR2, hb5⟩)))
        go_roundg gk
        case measure => omega
        case rel => exact ⟨i + 1, by congr 1, by omega, q2, hfin, hb3.alloc hb3.size _⟩
      · have b30 : (op == 30) = false := beq_eq_false_iff_ne.2 c30
        clear hct goOn goBet cn hz c0 c3 c30 bn30
        go_wp2_with (first | (go_at_call 50; go_loud ((with_reducible refine hlc.mono ?_); rintro e w2 ⟨rfl, hb2⟩; have hb3 := below_then hb1 hb1.size hb2; obtain ⟨hbx0, hbx1, hbxl⟩ := box_after hb2; obtain ⟨ad5, e5, hs0, hs1⟩ := HRT.out w2 hb3; cases e5; have hne : wr.heap.size ≠ w2.heap.size := Nat.ne_of_lt hbxl; have hb4 : ∀ o, Below w.heap.size w (w2.alloc o) := fun o => hb3.alloc hb3.size o)) | (go_at_call 49; go_loud ((first | (with_reducible refine (HD1.out _ i (by omega) (hb4 _)).mono ?_) | (with_reducible refine (HD2.out _ t (by omega) (hb4 _)).mono ?_)); rintro e w5 ⟨v2, rfl, hR2, hb5⟩)))
        go_roundg gk
        case measure => omega
        case rel => exact ⟨i + 1, by congr 1, by omega, q2, hfin, hb3.alloc hb3.size _⟩
    clear cn bn30
    rcases c3 with rfl | rfl
    · rw [if_pos rfl] at hct
      by_cases c6 : o2 = 6
      · subst c6
        rw [if_pos (by decide)] at hct
        have HB := goBet _ _ hct
        clear hct goOn goBet hz c0
        go_wp2_with (first | (go_at_call 50; go_loud ((with_reducible refine hlc.mono ?_); rintro e w2 ⟨rfl, hb2⟩; have hb3 := below_then hb1 hb1.size hb2; obtain ⟨hbx0, hbx1, hbxl⟩ := box_after hb2; obtain ⟨ad5, e5, hs0, hs1⟩ := HRT.out w2 hb3; cases e5; have hne : wr.heap.size ≠ w2.heap.size := Nat.ne_of_lt hbxl; have hb4 : ∀ o, Below w.heap.size w (w2.alloc o) := fun o => hb3.alloc hb3.size o)) | (go_at_call 49; go_loud ((first | (with_reducible refine (HD1.out _ i (by omega) (hb4 _)).mono ?_) | (with_reducible refine (HD2.out _ t (by omega) (hb4 _)).mono ?_)); rintro e w5 ⟨v2, rfl, hR2, hb5⟩)))
        go_ret2
        exact .inl ⟨_, _, HB.out, rfl, hR2, hb5⟩
      · have b6 : (o2 == 6) = false := beq_eq_false_iff_ne.2 c6
        by_cases c12 : 12 ≤ o2
        · have d12 : decide (12 ≤ o2) = true := decide_eq_true c12
          by_cases c17 : o2 ≤ 17
          · have d17 : decide (o2 ≤ 17) = true := decide_eq_true c17
            rw [if_pos (by unfold truthB; rw [b6, d12, d17]; rfl)] at hct
            have HB := goBet _ _ hct
            clear hct goOn goBet hz c0 c6 c12 c17
            go_wp2_with (first | (go_at_call 50; go_loud ((with_reducible refine hlc.mono ?_); rintro e w2 ⟨rfl, hb2⟩; have hb3 := below_then hb1 hb1.size hb2; obtain ⟨hbx0, hbx1, hbxl⟩ := box_after hb2; obtain ⟨ad5, e5, hs0, hs1⟩ := HRT.out w2 hb3; cases e5; have hne : wr.heap.size ≠ w2.heap.size := Nat.ne_of_lt hbxl; have hb4 : ∀ o, Below w.heap.size w (w2.alloc o) := fun o => hb3.alloc hb3.size o)) | (go_at_call 49; go_loud ((first | (with_reducible refine (HD1.out _ i (by omega) (hb4 _)).mono ?_) | (with_reducible refine (HD2.out _ t (by omega) (hb4 _)).mono ?_)); rintro e w5 ⟨v2, rfl, hR2, hb5⟩)))
            go_ret2
            exact .inl ⟨_, _, HB.out, rfl, hR2, hb5⟩
          · have d17 : decide (o2 ≤ 17) = false := decide_eq_false c17
            rw [if_neg (by unfold truthB; rw [b6, d12, d17]; simp)] at hct
            have hfin := goOn hct
            clear hct goOn goBet hz c0 c6 c12 c17
            go_wp2_with (first | (go_at_call 50; go_loud ((with_reducible refine hlc.mono ?_); rintro e w2 ⟨rfl, hb2⟩; have hb3 := below_then hb1 hb1.size hb2; obtain ⟨hbx0, hbx1, hbxl⟩ := box_after hb2; obtain ⟨ad5, e5, hs0, hs1⟩ := HRT.out w2 hb3; cases e5; have hne : wr.heap.size ≠ w2.heap.size := Nat.ne_of_lt hbxl; have hb4 : ∀ o, Below w.heap.size w (w2.alloc o) := fun o => hb3.alloc hb3.size o)) | (go_at_call 49; go_loud ((first | (with_reducible refine (HD1.out _ i (by omega) (hb4 _)).mono ?_) | (with_reducible refine (HD2.out _ t (by omega) (hb4 _)).mono ?_)); rintro e w5 ⟨v2, rfl, hR2, hb5⟩)))
            go_roundg gk
            case measure => omega
            case rel => exact ⟨i + 1, by congr 1, by omega, q2, hfin, hb3.alloc hb3.size _⟩
        · have d12 : decide (12 ≤ o2) = false := decide_eq_false c12
          rw [if_neg (by unfold truthB; rw [b6, d12]; simp)] at hct
          have hfin := goOn hct
          clear hct goOn goBet hz c0 c6 c12
          go_wp2_with (first | (go_at_call 50; go_loud ((with_reducible refine hlc.mono ?_); rintro e w2 ⟨rfl, hb2⟩; have hb3 := below_then hb1 hb1.size hb2; obtain ⟨hbx0, hbx1, hbxl⟩ := box_after hb2; obtain ⟨ad5, e5, hs0, hs1⟩ := HRT.out w2 hb3; cases e5; have hne : wr.heap.size ≠ w2.heap.size := Nat.ne_of_lt hbxl; have hb4 : ∀ o, Below w.heap.size w (w2.alloc o) := fun o => hb3.alloc hb3.size o)) | (go_at_call 49; go_loud ((first | (with_reducible refine (HD1.out _ i (by omega) (hb4 _)).mono ?_) | (with_reducible refine (HD2.out _ t (by omega) (hb4 _)).mono ?_)); rintro e w5 ⟨v2, rfl, hR2, hb5⟩)))
          go_roundg gk
          case measure => omega
          case rel => exact ⟨i + 1, by congr 1, by omega, q2, hfin, hb3.alloc hb3.size _⟩
    · rw [if_neg (by decide), if_pos rfl] at hct
      by_cases cp : o2 = 1
      rotate_left
      · rw [if_neg (fun h => cp h.1)] at hct
        have bp : (o2 == 1) = false := beq_eq_false_iff_ne.2 cp
        have hfin := goOn hct
        clear hct goOn goBet hz c0 cp
        go_wp2_with (first | (go_at_call 50; go_loud ((with_reducible refine hlc.mono ?_); rintro e w2 ⟨rfl, hb2⟩; have hb3 := below_then hb1 hb1.size hb2; obtain ⟨hbx0, hbx1, hbxl⟩ := box_after hb2; obtain ⟨ad5, e5, hs0, hs1⟩ := HRT.out w2 hb3; cases e5; have hne : wr.heap.size ≠ w2.heap.size := Nat.ne_of_lt hbxl; have hb4 : ∀ o, Below w.heap.size w (w2.alloc o) := fun o => hb3.alloc hb3.size o)) | (go_at_call 49; go_loud ((first | (with_reducible refine (HD1.out _ i (by omega) (hb4 _)).mono ?_) | (with_reducible refine (HD2.out _ t (by omega) (hb4 _)).mono ?_)); rintro e w5 ⟨v2, rfl, hR2, hb5⟩)))
        go_roundg gk
        case measure => omega
        case rel => exact ⟨i + 1, by congr 1, by omega, q2, hfin, hb3.alloc hb3.size _⟩
      subst cp
      by_cases cq : n2 = 0
      · rw [if_neg (fun h => h.2 cq)] at hct
        subst cq
        have hfin := goOn hct
        clear hct goOn goBet hz c0
        go_wp2_with (first | (go_at_call 50; go_loud ((with_reducible refine hlc.mono ?_); rintro e w2 ⟨rfl, hb2⟩; have hb3 := below_then hb1 hb1.size hb2; obtain ⟨hbx0, hbx1, hbxl⟩ := box_after hb2; obtain ⟨ad5, e5, hs0, hs1⟩ := HRT.out w2 hb3; cases e5; have hne : wr.heap.size ≠ w2.heap.size := Nat.ne_of_lt hbxl; have hb4 : ∀ o, Below w.heap.size w (w2.alloc o) := fun o => hb3.alloc hb3.size o)) | (go_at_call 49; go_loud ((first | (with_reducible refine (HD1.out _ i (by omega) (hb4 _)).mono ?_) | (with_reducible refine (HD2.out _ t (by omega) (hb4 _)).mono ?_)); rintro e w5 ⟨v2, rfl, hR2, hb5⟩)))
        go_roundg gk
        case measure => omega
        case rel => exact ⟨i + 1, by congr 1, by omega, q2, hfin, hb3.alloc hb3.size _⟩
      · rw [if_pos ⟨rfl, cq⟩] at hct
        have bq : (n2 == 0) = false := beq_eq_false_iff_ne.2 cq
        have bq2 : (n2 != 0) = true := bne_iff_ne.2 cq
        have HB := goBet _ _ hct
        clear hct goOn goBet hz c0 cq
        go_wp2_with (first | (go_at_call 50; go_loud ((with_reducible refine hlc.mono ?_); rintro e w2 ⟨rfl, hb2⟩; have hb3 := below_then hb1 hb1.size hb2; obtain ⟨hbx0, hbx1, hbxl⟩ := box_after hb2; obtain ⟨ad5, e5, hs0, hs1⟩ := HRT.out w2 hb3; cases e5; have hne : wr.heap.size ≠ w2.heap.size := Nat.ne_of_lt hbxl; have hb4 : ∀ o, Below w.heap.size w (w2.alloc o) := fun o => hb3.alloc hb3.size o)) | (go_at_call 49; go_loud ((first | (with_reducible refine (HD1.out _ i (by omega) (hb4 _)).mono ?_) | (with_reducible refine (HD2.out _ t (by omega) (hb4 _)).mono ?_)); rintro e w5 ⟨v2, rfl, hR2, hb5⟩)))
        go_ret2
        exact .inl ⟨_, _, HB.out, rfl, hR2, hb5⟩
end
section
open Go.RowKit Go.Proofs.YtekbcfgcojecmaaW.PrintWords Go.Proofs.YtekbcfgcojecmaaW.PrintLast Go.Proofs.YtekbcfgcojecmaaW.PrintMore
/-- The same code is the same. -/
theorem same_self (l : List S54) (hl : l.length ≤ 1000000) : Ev (fun k => headgateref22_Same.f k l l) true := by
  have loop : ∀ (m i : Nat), i + m = l.length → Ev (fun k => headgateref22_Same.l0 k l l (i : Int)) true := by
    intro m
    induction m with
    | zero =>
      intro i hi
      refine Ev.step (fun k => by rw [headgateref22_Same.l0]) ?_
      simp only [if_neg (show ¬ (i : Int) < (l.length : Int) by omega)]
      exact Ev.now _
    | succ m ih =>
      intro i hi
      refine Ev.step (fun k => by rw [headgateref22_Same.l0]) ?_
      simp only [if_pos (show (i : Int) < (l.length : Int) by omega), if_pos (show (0 : Int) ≤ (i : Int) by omega), beq_self_eq_true, Bool.not_true, Bool.or_self, Bool.false_eq_true, if_false]
      rw [wnx (show i ≤ 1000000 by omega)]
      exact ih (i + 1) (by omega)
  unfold headgateref22_Same.f
  simp only [if_true]
  exact loop l.length 0 (by omega)
theorem same_calls (A0 : Option Addr) (n0 c0 : Nat) (A1 : Option Addr) (n1 c1 : Nat) (l : List S54) (w : World) (hl : l.length ≤ 1000000) (h0 : n0 = l.length) (h1 : n1 = l.length) (hr0 : Kd.C k54 w A0 n0 l) (hc0 : n0 ≤ c0) (hr1 : Kd.C k54 w A1 n1 l) (hc1 : n1 ≤ c1) :
    Calls Try.prog 18 #[.slice A0 n0 c0, .slice A1 n1 c1] w fun e w' => e = .returned (.bool true) ∧ Below w.heap.size w w' := by
  subst h0
  subst h1
  obtain ⟨k, hk⟩ := (same_self l hl).rounds
  exact (headgateref22_Same.calls k A0 c0 l A1 c1 l true w hr0 hc0 hr1 hc1 hk).mono fun e w' ⟨h, hd⟩ => ⟨h, hd.below⟩
/-- What Better leaves. -/
def betL (l : List S54) : List S54 := if hOk l = true then betterN 4096 l else []
def betE (l : List S54) : Int := if hOk l = true then 0 else 1
theorem betL_le (l : List S54) : (betL l).length ≤ l.length := by
  unfold betL
  split
  · rename_i h; exact (betterN_good 4096 l h).2.1
  · exact Nat.zero_le _
def BetPost (l : List S54) (w : World) (e : Ending) (w' : World) : Prop := ∃ A1 c1, e = .returned (.tuple #[.slice A1 (betL l).length c1, .int .i64 (betE l)]) ∧ Kd.R k54 54 w' w.heap.size (fun _ => True) (.slice A1 (betL l).length c1) (betL l) ∧ Below w.heap.size w w'
theorem bet_calls (A : Option Addr) (n c : Nat) (l : List S54) (w : World) (hn : n = l.length) (hr : Kd.C k54 w A n l) (hc : n ≤ c) : Calls Try.prog 21 #[.slice A n c] w (BetPost l w) := by
  subst hn
  cases h : hOk l with
  | true =>
    refine (betterAll_calls A c l w hr hc h keeps_ok).mono fun e w' ⟨v, h1, h2, h3⟩ => ?_
    obtain ⟨A1, c1, rfl⟩ := Kd.R_slice h2
    have e1 : betL l = betterN 4096 l := by unfold betL; rw [if_pos h]
    have e2 : betE l = 0 := by unfold betE; rw [if_pos h]
    unfold BetPost
    rw [e1, e2]
    exact ⟨A1, c1, h1, h2, h3⟩
  | false =>
    refine (betterBad_calls A c l w hr hc h).mono fun e w' ⟨h1, h3⟩ => ?_
    have e1 : betL l = [] := by unfold betL; rw [h]; rfl
    have e2 : betE l = 1 := by unfold betE; rw [h]; rfl
    unfold BetPost
    rw [e1, e2]
    exact ⟨none, 0, h1, Kd.R_nil _ _ _ _ _, h3⟩
def RefPost (l : List S54) (w : World) (e : Ending) (w' : World) : Prop := ∃ A1 c1, e = .returned (.tuple #[.slice A1 (betL l).length c1, .int .i64 (betE l)]) ∧ (betL l).length ≤ c1 ∧ Kd.C k54 w' A1 (betL l).length (betL l) ∧ Below w.heap.size w w'
theorem C_nil (w : World) : Kd.C k54 w none 0 [] := (Kd.R_reads (Kd.R_nil k54 54 w 0 (fun _ => True))).elim fun A h => h.elim fun c h => by
  obtain ⟨h1, _, h3⟩ := h
  injection h1 with h1 _ _
  rw [h1]
  exact h3
set_option maxHeartbeats 8000000 in
set_option maxRecDepth 100000 in
theorem refBetter_calls (A : Option Addr) (n c : Nat) (l : List S54) (w : World) (hn : n = l.length) (hr : Kd.C k54 w A n l) (hc : n ≤ c) : Calls Try.prog 22 #[.slice A n c] w (RefPost l w) := by
  subst hn
  obtain ⟨km, hkm⟩ := (may_ev l).rounds
  have hmc := headgateref22_May.calls km A c l _ w hr hc hkm
  cases h : hOk l with
  | false =>
    have e1 : betL l = [] := by unfold betL; rw [h]; rfl
    have e2 : betE l = 1 := by unfold betE; rw [h]; rfl
    unfold RefPost
    rw [e1, e2]
    rw [h] at hmc
    clear hkm h e1 e2
    go_enter Try.func22, Try.ntmps22
    go_wp2_with (first | (go_at_call 12; go_loud ((with_reducible refine hmc.mono ?_); rintro e w1 ⟨rfl, hb1⟩)))
    go_ret2
    exact ⟨none, 0, rfl, Nat.le_refl _, C_nil _, hb1⟩
  | true =>
    have e1 : betL l = betterN 4096 l := by unfold betL; rw [if_pos h]
    have e2 : betE l = 0 := by unfold betE; rw [if_pos h]
    unfold RefPost
    rw [e1, e2]
    rw [h] at hmc
    have HO := Lib.hid h
    clear hkm h e1 e2
    go_enter Try.func22, Try.ntmps22
    go_wp2_with (first | (go_at_call 12; go_loud ((with_reducible refine hmc.mono ?_); rintro e w1 ⟨rfl, hb1⟩; have hr1 := Kd.C_below hr hb1)))
    go_loopg [0, 4, 5] 4096 (fun kq v0 v4 v5 wr => ∃ (i : Nat) (m : List S54) (more : Bool) (A1 : Option Addr) (c1 : Nat), v5 = .int .i64 (i : Int) ∧ v4 = .bool more ∧ v0 = .slice A1 m.length c1 ∧ i ≤ 4096 ∧ 4096 - i ≤ kq ∧ hOk m = true ∧ m.length ≤ c1 ∧ Kd.C k54 wr A1 m.length m ∧ (if more = true then betterN (4096 - i) m else m) = betterN 4096 l ∧ Below w.heap.size w wr)
    case atStart => exact ⟨0, l, true, A, c, rfl, rfl, rfl, Nat.zero_le _, by omega, HO.out, hc, hr1, rfl, hb1⟩
    case round =>
      obtain ⟨i, m, more, A1, c1, rfl, rfl, rfl, hil, hik, hm, hc1, hread, hbn, hb⟩ := hrel
      cases more with
      | false =>
        rw [if_neg (by decide)] at hbn
        have HB := Lib.hid hbn
        clear hbn hm
        by_cases hlt : i < 4096
        · have d1 : decide ((i : Int) < 4096) = true := decide_eq_true (by omega)
          go_wp2
          go_ret2
          rw [← HB.out]
          exact ⟨_, _, rfl, hc1, hread, hb⟩
        · have d1 : decide ((i : Int) < 4096) = false := decide_eq_false (by omega)
          go_wp2
          go_ret2
          rw [← HB.out]
          exact ⟨_, _, rfl, hc1, hread, hb⟩
      | true =>
      rw [if_pos rfl] at hbn
      by_cases hlt : i < 4096
      rotate_left
      · have d1 : decide ((i : Int) < 4096) = false := decide_eq_false (by omega)
        rw [show 4096 - i = 0 by omega] at hbn
        have hbn' : m = betterN 4096 l := hbn
        have HB := Lib.hid hbn'
        clear hbn hbn' hm hik
        go_wp2
        go_ret2
        rw [← HB.out]
        exact ⟨_, _, rfl, hc1, hread, hb⟩
      have d1 : decide ((i : Int) < 4096) = true := decide_eq_true (by omega)
      have hml := hOk_len hm
      have hbt := once_calls A1 c1 m wr hread hc1 (by omega) (onward_of hm)
      cases gk with
      | zero => omega
      | succ gk =>
      rw [show 4096 - i = (4096 - (i + 1)) + 1 by omega] at hbn
      have HM := Lib.hid hm
      have HN := Lib.hid hbn
      clear hm hbn
      cases hbc : betterC m with
      | some m2 =>
        have HC := Lib.hid hbc
        clear hbc
        go_wp2_with (first | (go_at_call 36; go_loud ((with_reducible refine hbt.mono ?_); rintro e w3 (⟨m3, v3, he3, rfl, hR3, hb3⟩ | ⟨he3, rfl, hb3⟩); rotate_left; exact absurd (HC.out.symm.trans he3) (by simp); obtain rfl : m2 = m3 := Option.some.inj (HC.out.symm.trans he3); clear he3; obtain ⟨A2, c2, rfl, hc2, hread2⟩ := Kd.R_reads hR3)))
        go_roundg gk
        case measure => omega
        case rel => exact ⟨i + 1, m2, true, A2, c2, by congr 1, rfl, rfl, by omega, by omega, (better_good HM.out HC.out).1, hc2, hread2, by rw [if_pos rfl, ← HN.out, betterN_some HC.out], below_then hb hb.size hb3⟩
      | none =>
        have HC := Lib.hid hbc
        clear hbc
        go_wp2_with (first | (go_at_call 36; go_loud ((with_reducible refine hbt.mono ?_); rintro e w3 (⟨m3, v3, he3, rfl, hR3, hb3⟩ | ⟨he3, rfl, hb3⟩); exact absurd (HC.out.symm.trans he3) (by simp); clear he3)))
        go_roundg gk
        case measure => omega
        case rel => exact ⟨i + 1, m, false, A1, c1, by congr 1, rfl, rfl, by omega, by omega, HM.out, hc1, Kd.C_below hread hb3, by rw [if_neg (by decide), ← HN.out, betterN_none HC.out], below_then hb hb.size hb3⟩
theorem hid_self (e : Int) : (e == e) = true := beq_self_eq_true e
set_option maxHeartbeats 8000000 in
set_option maxRecDepth 100000 in
theorem codeBetters_walk (A : Option Addr) (c : Nat) (l : List S54) (w : World) (hr : Kd.C k54 w A l.length l) (hc : l.length ≤ c) :
    Calls Try.prog 7 #[.slice A l.length c] w fun e w' => e = .returned (.bool true) ∧ Below w.heap.size w w' := by
  have hAs : 120 < l.length → ∃ ad, A = some ad := fun h => by obtain ⟨ad, e, _⟩ := hr.2.2 (by omega); exact ⟨ad, e⟩
  obtain ⟨m, hm⟩ : ∃ m, m = l.take 120 := ⟨_, rfl⟩
  have hml : m.length ≤ 120 := by rw [hm]; simp; omega
  have hw0 := Below.refl w.heap.size w
  have hbl := betL_le m
  by_cases hlt : 120 < l.length
  · obtain ⟨ad, rfl⟩ := hAs hlt
    have hn : 120 = m.length := by rw [hm]; simp; omega
    have hrm : Kd.C k54 w (some ad) 120 m := by
      have := Kd.C_take hr (show 120 ≤ l.length by omega)
      rw [← hm, ← hn] at this
      exact this
    have hcm : 120 ≤ c := by omega
    have d1 : decide ((120 : Int) < (l.length : Int)) = true := decide_eq_true (by omega)
    have d2 : decide ((120 : Int) ≤ (c : Int)) = true := decide_eq_true (by omega)
    have d3 : (120 ≤ c) = True := eq_true (by omega)
    clear hm hAs
    have HN := Lib.hid hn
    clear hn
    go_enter Try.func7, Try.ntmps7
    go_wp2_with (first | (at_builtin; go_loud (refine Kd.R_append_rows k54 (w0 := w) w.heap.size rfl (.tmp 13) (.tmp 14) 22 54 (.agg #[(.int .i64 0), (.int .i64 0)]) 16 rfl Try.underlying22 info54 rfl (by decide) (by omega) (.slice none 0 0) [] m _ _ _ (fun _ => True) (fun _ => False) rfl rfl (Kd.R_nil _ _ _ _ _) hrm (fun _ _ h => by obtain rfl := k54_open h; exact k54_mkM _ _ _ _) (fun _ h => h.elim) (fun _ _ => trivial) hw0 hw0.size ?aL ?_; (case aL => (simp <;> omega)); intro v1 w1 ho hb1 hg hat; rw [List.nil_append] at ho; obtain ⟨Ak, ck, rfl, hck, hrk⟩ := Kd.R_reads ho; have hrm1 := Kd.C_below hrm hb1; clear hg hat)) | (go_at_call 21; go_loud ((with_reducible refine (bet_calls _ _ c m _ HN.out hrm1 hcm).mono ?_); rintro e w2 ⟨A2, c2, rfl, hR2, hb2⟩; obtain ⟨A2', c2', e2, hc2, hr2⟩ := Kd.R_reads hR2; injection e2 with e2 e2b e2c; subst e2; subst e2c; have hrk2 := Kd.C_below hrk hb2; have hbb2 := below_then hb1 hb1.size hb2)) | (go_at_call 22; go_loud ((with_reducible refine (refBetter_calls Ak _ ck m _ rfl hrk2 hck).mono ?_); rintro e w3 ⟨A3, c3, rfl, hc3, hr3, hb3⟩; have hbb3 := below_then hbb2 hbb2.size hb3; have hr23 := Kd.C_below hr2 hb3; have hrk3 := Kd.C_below hrk2 hb3)) | (go_at_call 18; (with_reducible refine (same_calls A2 _ c2 A3 _ c3 (betL m) _ (by omega) rfl rfl hr23 hc2 hr3 hc3).mono ?_); rintro e w4 ⟨rfl, hb4⟩; have hbb4 := below_then hbb3 hbb3.size hb4; have hrk4 := Kd.C_below hrk3 hb4; have hrm4 := Kd.C_below hrm hbb4) | (go_at_call 18; (with_reducible refine (same_calls _ _ c Ak _ ck m _ (by omega) HN.out rfl hrm4 hcm hrk4 hck).mono ?_); rintro e w5 ⟨rfl, hb5⟩; have hbb5 := below_then hbb4 hbb4.size hb5) | (go_at_call 13; go_loud ((with_reducible refine (awake_calls _).mono ?_); rintro e w6 ⟨rfl, hb6'⟩; have hb6 := below_then hbb5 hbb5.size hb6')))
    go_ret
    exact ⟨rfl, hb6⟩
  · have hm2 : m = l := by rw [hm]; exact List.take_of_length_le (by omega)
    clear hm
    subst hm2
    have hn : m.length = m.length := rfl
    have hrm := hr
    have hcm := hc
    have d1 : decide ((120 : Int) < (m.length : Int)) = false := decide_eq_false (by omega)
    clear hAs
    go_enter Try.func7, Try.ntmps7
    go_wp2_with (first | (at_builtin; go_loud (refine Kd.R_append_rows k54 (w0 := w) w.heap.size rfl (.tmp 13) (.tmp 14) 22 54 (.agg #[(.int .i64 0), (.int .i64 0)]) 16 rfl Try.underlying22 info54 rfl (by decide) (by omega) (.slice none 0 0) [] m _ _ _ (fun _ => True) (fun _ => False) rfl rfl (Kd.R_nil _ _ _ _ _) hrm (fun _ _ h => by obtain rfl := k54_open h; exact k54_mkM _ _ _ _) (fun _ h => h.elim) (fun _ _ => trivial) hw0 hw0.size ?aL ?_; (case aL => (simp <;> omega)); intro v1 w1 ho hb1 hg hat; rw [List.nil_append] at ho; obtain ⟨Ak, ck, rfl, hck, hrk⟩ := Kd.R_reads ho; have hrm1 := Kd.C_below hrm hb1; clear hg hat)) | (go_at_call 21; go_loud ((with_reducible refine (bet_calls _ _ c m _ rfl hrm1 hcm).mono ?_); rintro e w2 ⟨A2, c2, rfl, hR2, hb2⟩; obtain ⟨A2', c2', e2, hc2, hr2⟩ := Kd.R_reads hR2; injection e2 with e2 e2b e2c; subst e2; subst e2c; have hrk2 := Kd.C_below hrk hb2; have hbb2 := below_then hb1 hb1.size hb2)) | (go_at_call 22; go_loud ((with_reducible refine (refBetter_calls Ak _ ck m _ rfl hrk2 hck).mono ?_); rintro e w3 ⟨A3, c3, rfl, hc3, hr3, hb3⟩; have hbb3 := below_then hbb2 hbb2.size hb3; have hr23 := Kd.C_below hr2 hb3; have hrk3 := Kd.C_below hrk2 hb3)) | (go_at_call 18; (with_reducible refine (same_calls A2 _ c2 A3 _ c3 (betL m) _ (by omega) rfl rfl hr23 hc2 hr3 hc3).mono ?_); rintro e w4 ⟨rfl, hb4⟩; have hbb4 := below_then hbb3 hbb3.size hb4; have hrk4 := Kd.C_below hrk3 hb4; have hrm4 := Kd.C_below hrm hbb4) | (go_at_call 18; (with_reducible refine (same_calls _ _ c Ak _ ck m _ (by omega) rfl rfl hrm4 hcm hrk4 hck).mono ?_); rintro e w5 ⟨rfl, hb5⟩; have hbb5 := below_then hbb4 hbb4.size hb5) | (go_at_call 13; go_loud ((with_reducible refine (awake_calls _).mono ?_); rintro e w6 ⟨rfl, hb6'⟩; have hb6 := below_then hbb5 hbb5.size hb6')))
    go_ret
    exact ⟨rfl, hb6⟩
/-! ### CodeKeeps -/
theorem run_calls2 (A : Option Addr) (n c : Nat) (l : List S54) (key time v r : Int) (w : World) (hn : n = l.length) (hr : Kd.C k54 w A n l) (hc : n ≤ c) (hO : hOk l = true) (he : Ends apS l key time v 0 [] r) :
    Calls Try.prog 14 #[.slice A n c, .int .i64 key, .int .i64 time, .int .i64 v] w fun e w' => e = .returned (.tuple #[.int .i64 r, .int .i64 0]) ∧ Below w.heap.size w w' := by
  subst hn
  obtain ⟨H, g⟩ := good_of_hOk hO
  obtain ⟨r', h1, h2⟩ := ends_good g apS key time v
  obtain rfl := Ends.one he h2
  refine code_Run.calls A c l key time v r 0 w hr hc ?_
  unfold code_Run.f
  rw [if_pos hO, apC_eq, h1]
  rfl
theorem check_calls2 (A : Option Addr) (n c : Nat) (l : List S54) (w : World) (hn : n = l.length) (hr : Kd.C k54 w A n l) (hc : n ≤ c) (hO : hOk l = true) :
    Calls Try.prog 11 #[.slice A n c] w fun e w' => e = .returned (.int .i64 0) ∧ Below w.heap.size w w' := by
  subst hn
  have := check_calls A c l w hr hc
  rwa [if_pos hO] at this
theorem bet_again {l : List S54} (h : hOk l = true) (hl : l.length ≤ 120) : betL (betL l) = betL l ∧ betE (betL l) = 0 ∧ hOk (betL l) = true := by
  have e1 : betL l = betterN 4096 l := by unfold betL; rw [if_pos h]
  have hg := betterN_good 4096 l h
  rw [e1]
  have h4 := hg.2.2.2 (by have := meas_bound (onward_of h) hl; omega)
  refine ⟨?_, ?_, hg.1⟩
  · unfold betL
    rw [if_pos hg.1]
    exact betterN_none h4
  · unfold betE
    rw [if_pos hg.1]
def AgainPost (l : List S54) (w : World) (e : Ending) (w' : World) : Prop := ∃ A1 c1, e = .returned (.tuple #[.slice A1 l.length c1, .int .i64 0]) ∧ Kd.R k54 54 w' w.heap.size (fun _ => True) (.slice A1 l.length c1) l ∧ Below w.heap.size w w'
set_option maxHeartbeats 8000000 in
set_option maxRecDepth 100000 in
theorem codeKeeps_walk (A : Option Addr) (c : Nat) (l : List S54) (key time v : Int) (w : World) (hr : Kd.C k54 w A l.length l) (hc : l.length ≤ c) :
    Calls Try.prog 8 #[.slice A l.length c, .int .i64 key, .int .i64 time, .int .i64 v] w fun e w' => e = .returned (.bool true) ∧ Below w.heap.size w w' := by
  have hAs : 120 < l.length → ∃ ad, A = some ad := fun h => by obtain ⟨ad, e, _⟩ := hr.2.2 (by omega); exact ⟨ad, e⟩
  obtain ⟨m, hm⟩ : ∃ m, m = l.take 120 := ⟨_, rfl⟩
  have hml : m.length ≤ 120 := by rw [hm]; simp; omega
  have hw0 := Below.refl w.heap.size w
  have hbl := betL_le m
  cases hO : hOk m with
  | false =>
    have e2 : betE m = 1 := by unfold betE; rw [hO]; rfl
    have e1 : betL m = [] := by unfold betL; rw [hO]; rfl
    have hbc : ∀ (A : Option Addr) (n c : Nat), n = m.length → Kd.C k54 w A n m → n ≤ c → Calls Try.prog 21 #[.slice A n c] w (fun e w' => ∃ A1 c1, e = .returned (.tuple #[.slice A1 0 c1, .int .i64 1]) ∧ Below w.heap.size w w') := fun A n c h1 h2 h3 =>
      (bet_calls A n c m w h1 h2 h3).mono fun e w' ⟨A1, c1, q1, q2, q3⟩ => ⟨A1, c1, by rw [q1, e1, e2]; rfl, q3⟩
    have HC := Lib.hid hbc
    clear hbc e1 e2 hbl hO
    by_cases hlt : 120 < l.length
    · obtain ⟨ad, rfl⟩ := hAs hlt
      have hn : 120 = m.length := by rw [hm]; simp; omega
      have hrm : Kd.C k54 w (some ad) 120 m := by
        have := Kd.C_take hr (show 120 ≤ l.length by omega)
        rw [← hm, ← hn] at this
        exact this
      have hcm : 120 ≤ c := by omega
      have d1 : decide ((120 : Int) < (l.length : Int)) = true := decide_eq_true (by omega)
      have d2 : decide ((120 : Int) ≤ (c : Int)) = true := decide_eq_true (by omega)
      have d3 : (120 ≤ c) = True := eq_true (by omega)
      clear hm hAs
      have hbc := HC.out _ _ _ hn hrm hcm
      clear hn
      go_enter Try.func8, Try.ntmps8
      go_wp2_with (first | (go_at_call 21; go_loud ((with_reducible refine hbc.mono ?_); rintro e w2 ⟨A2, c2, rfl, hb2⟩)) | (go_at_call 13; go_loud ((with_reducible refine (awake_calls _).mono ?_); rintro e w3 ⟨rfl, hb3'⟩; have hb3 := below_then hb2 hb2.size hb3')))
      go_ret
      exact ⟨rfl, hb3⟩
    · have hm2 : m = l := by rw [hm]; exact List.take_of_length_le (by omega)
      clear hm
      subst hm2
      have d1 : decide ((120 : Int) < (m.length : Int)) = false := decide_eq_false (by omega)
      have hbc := HC.out _ _ _ rfl hr hc
      clear hAs
      go_enter Try.func8, Try.ntmps8
      go_wp2_with (first | (go_at_call 21; go_loud ((with_reducible refine hbc.mono ?_); rintro e w2 ⟨A2, c2, rfl, hb2⟩)) | (go_at_call 13; go_loud ((with_reducible refine (awake_calls _).mono ?_); rintro e w3 ⟨rfl, hb3'⟩; have hb3 := below_then hb2 hb2.size hb3')))
      go_ret
      exact ⟨rfl, hb3⟩
  | true =>
    obtain ⟨f1, f2, f3⟩ := bet_again hO hml
    have e2 : betE m = 0 := by unfold betE; rw [hO]; rfl
    have e1 : betL m = betterN 4096 m := by unfold betL; rw [if_pos hO]
    obtain ⟨H, g⟩ := good_of_hOk hO
    obtain ⟨r, _, hr1⟩ := ends_good g apS key time v
    have hr2 := (betterN_good 4096 m hO).2.2.1 key time v r hr1
    rw [← e1] at hr2
    have hbc : ∀ (A : Option Addr) (n c : Nat) (w : World), n = m.length → Kd.C k54 w A n m → n ≤ c → Calls Try.prog 21 #[.slice A n c] w (AgainPost (betL m) w) := fun A n c w h1 h2 h3 =>
      (bet_calls A n c m w h1 h2 h3).mono fun e w' ⟨A1, c1, q1, q2, q3⟩ => ⟨A1, c1, by rw [q1, e2], q2, q3⟩
    have hbc2 : ∀ (A : Option Addr) (n c : Nat) (w : World), n = (betL m).length → Kd.C k54 w A n (betL m) → n ≤ c → Calls Try.prog 21 #[.slice A n c] w (AgainPost (betL m) w) := fun A n c w h1 h2 h3 =>
      (bet_calls A n c (betL m) w h1 h2 h3).mono fun e w' ⟨A1, c1, q1, q2, q3⟩ => ⟨A1, c1, by rw [q1, f1, f2], by rw [f1] at q2; exact q2, q3⟩
    have hrun1 := fun (A : Option Addr) (n c : Nat) (w : World) (hn : n = m.length) (hr : Kd.C k54 w A n m) (hc : n ≤ c) => run_calls2 A n c m key time v r w hn hr hc hO hr1
    have hrun2 := fun (A : Option Addr) (n c : Nat) (w : World) (hn : n = (betL m).length) (hr : Kd.C k54 w A n (betL m)) (hc : n ≤ c) => run_calls2 A n c (betL m) key time v r w hn hr hc f3 hr2
    have hchk := fun (A : Option Addr) (n c : Nat) (w : World) (hn : n = (betL m).length) (hr : Kd.C k54 w A n (betL m)) (hc : n ≤ c) => check_calls2 A n c (betL m) w hn hr hc f3
    have HC := Lib.hid hbc
    have HC2 := Lib.hid hbc2
    have HR1 := Lib.hid hrun1
    have HR2 := Lib.hid hrun2
    have HK := Lib.hid hchk
    clear hbc hbc2 hrun1 hrun2 hchk f1 f2 f3 e2 e1 g hr1 hr2 hO
    revert hbl HC HC2 HR1 HR2 HK
    generalize betL m = b
    intro hbl HC HC2 HR1 HR2 HK
    by_cases hlt : 120 < l.length
    · obtain ⟨ad, rfl⟩ := hAs hlt
      have hn : 120 = m.length := by rw [hm]; simp; omega
      have hrm : Kd.C k54 w (some ad) 120 m := by
        have := Kd.C_take hr (show 120 ≤ l.length by omega)
        rw [← hm, ← hn] at this
        exact this
      have hcm : 120 ≤ c := by omega
      have hbb : decide ((b.length : Int) ≤ 120) = true := decide_eq_true (by omega)
      have d1 : decide ((120 : Int) < (l.length : Int)) = true := decide_eq_true (by omega)
      have d2 : decide ((120 : Int) ≤ (c : Int)) = true := decide_eq_true (by omega)
      have d3 : (120 ≤ c) = True := eq_true (by omega)
      clear hm hAs
      have HN := Lib.hid hn
      clear hn
      go_enter Try.func8, Try.ntmps8
      go_wp2_with (first | (go_at_call 21; (with_reducible refine (HC.out _ _ c _ HN.out hrm hcm).mono ?_); rintro e w2 ⟨A2, c2, rfl, hR2, hbb2⟩; obtain ⟨A2', c2', e2, hc2, hr2⟩ := Kd.R_reads hR2; injection e2 with e2 e2b e2c; subst e2; subst e2c; have hrm2 := Kd.C_below hrm hbb2) | (go_at_call 14; (with_reducible refine (HR1.out _ _ c _ HN.out hrm2 hcm).mono ?_); rintro e w3 ⟨rfl, hb3⟩; have hbb3 := below_then hbb2 hbb2.size hb3; have hr3 := Kd.C_below hr2 hb3) | (go_at_call 14; (with_reducible refine (HR2.out A2 _ c2 _ rfl hr3 hc2).mono ?_); rintro e w4 ⟨rfl, hb4⟩; have hbb4 := below_then hbb3 hbb3.size hb4; have hr4 := Kd.C_below hr3 hb4) | (go_at_call 21; (with_reducible refine (HC2.out A2 _ c2 _ rfl hr4 hc2).mono ?_); rintro e w5 ⟨A5, c5, rfl, hR5, hb5⟩; obtain ⟨A5', c5', e5, hc5, hr5a⟩ := Kd.R_reads hR5; injection e5 with e5 e5b e5c; subst e5; subst e5c; have hbb5 := below_then hbb4 hbb4.size hb5; have hr5 := Kd.C_below hr4 hb5) | (go_at_call 11; (with_reducible refine (HK.out A2 _ c2 _ rfl hr5 hc2).mono ?_); rintro e w6 ⟨rfl, hb6⟩; have hbb6 := below_then hbb5 hbb5.size hb6; have hr6 := Kd.C_below hr5 hb6; have hr6a := Kd.C_below hr5a hb6) | (go_at_call 18; (with_reducible refine (same_calls A5 _ c5 A2 _ c2 b _ (by omega) rfl rfl hr6a hc5 hr6 hc2).mono ?_); rintro e w7 ⟨rfl, hb7⟩; have hbb7 := below_then hbb6 hbb6.size hb7) | (go_at_call 13; go_loud ((with_reducible refine (awake_calls _).mono ?_); rintro e w8 ⟨rfl, hb8⟩; have hbb8 := below_then hbb7 hbb7.size hb8)))
      go_ret
      exact ⟨rfl, hbb8⟩
    · have hm2 : m = l := by rw [hm]; exact List.take_of_length_le (by omega)
      clear hm
      subst hm2
      have hrm := hr
      have hcm := hc
      have hbb : decide ((b.length : Int) ≤ (m.length : Int)) = true := decide_eq_true (by omega)
      have hbb2 : b.length ≤ m.length := hbl
      have d1 : decide ((120 : Int) < (m.length : Int)) = false := decide_eq_false (by omega)
      clear hAs
      go_enter Try.func8, Try.ntmps8
      go_wp2_with (first | (go_at_call 21; (with_reducible refine (HC.out _ _ c _ rfl hrm hcm).mono ?_); rintro e w2 ⟨A2, c2, rfl, hR2, hbb2⟩; obtain ⟨A2', c2', e2, hc2, hr2⟩ := Kd.R_reads hR2; injection e2 with e2 e2b e2c; subst e2; subst e2c; have hrm2 := Kd.C_below hrm hbb2) | (go_at_call 14; (with_reducible refine (HR1.out _ _ c _ rfl hrm2 hcm).mono ?_); rintro e w3 ⟨rfl, hb3⟩; have hbb3 := below_then hbb2 hbb2.size hb3; have hr3 := Kd.C_below hr2 hb3) | (go_at_call 14; (with_reducible refine (HR2.out A2 _ c2 _ rfl hr3 hc2).mono ?_); rintro e w4 ⟨rfl, hb4⟩; have hbb4 := below_then hbb3 hbb3.size hb4; have hr4 := Kd.C_below hr3 hb4) | (go_at_call 21; (with_reducible refine (HC2.out A2 _ c2 _ rfl hr4 hc2).mono ?_); rintro e w5 ⟨A5, c5, rfl, hR5, hb5⟩; obtain ⟨A5', c5', e5, hc5, hr5a⟩ := Kd.R_reads hR5; injection e5 with e5 e5b e5c; subst e5; subst e5c; have hbb5 := below_then hbb4 hbb4.size hb5; have hr5 := Kd.C_below hr4 hb5) | (go_at_call 11; (with_reducible refine (HK.out A2 _ c2 _ rfl hr5 hc2).mono ?_); rintro e w6 ⟨rfl, hb6⟩; have hbb6 := below_then hbb5 hbb5.size hb6; have hr6 := Kd.C_below hr5 hb6; have hr6a := Kd.C_below hr5a hb6) | (go_at_call 18; (with_reducible refine (same_calls A5 _ c5 A2 _ c2 b _ (by omega) rfl rfl hr6a hc5 hr6 hc2).mono ?_); rintro e w7 ⟨rfl, hb7⟩; have hbb7 := below_then hbb6 hbb6.size hb7) | (go_at_call 13; go_loud ((with_reducible refine (awake_calls _).mono ?_); rintro e w8 ⟨rfl, hb8⟩; have hbb8 := below_then hbb7 hbb7.size hb8)))
      go_ret
      exact ⟨rfl, hbb8⟩
end
end Go.Proofs.Ytekbcfgcojecmaa.P
