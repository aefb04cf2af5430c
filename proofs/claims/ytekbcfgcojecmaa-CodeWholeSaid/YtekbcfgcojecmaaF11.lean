-- Written by this session's program drv.py, by means of the kit's printer; not a text of print.sh.
import Derived.Test.YtekbcfgcojecmaaF0
import Derived.Test.YtekbcfgcojecmaaF40
import Derived.Test.YtekbcfgcojecmaaF52
import Derived.Laws.CopyOwn
import Derived.Deep.RegionLaw
namespace Go.Proofs.Ytekbcfgcojecmaa.P
open Go.RowKit Go.Proofs.YtekbcfgcojecmaaW.PrintWords Go.Proofs.YtekbcfgcojecmaaW.PrintLast Go.Proofs.YtekbcfgcojecmaaW.PrintMore
attribute [local go_sem] max2_int min2_int max_two min_two max_three min_three max_four min_four   -- for this text's walks alone
set_option linter.unusedVariables false
set_option linter.unusedSimpArgs false

/-- How many numbers an instruction takes and puts, and whether there is such a one. -/
def eff (op n : Int) : Int × Int × Bool :=
  if 1 ≤ op ∧ op ≤ 4 then (0, 1, op == 1 || n == 0)
  else if op = 5 ∨ op = 6 ∨ op = 32 then (1, 1, n == 0)
  else if 7 ≤ op ∧ op ≤ 17 ∨ op = 20 ∨ op = 21 then (2, 1, n == 0)
  else if op = 30 then (0, 0, true)
  else if op = 31 then (1, 0, true)
  else (0, 0, false)
theorem eff_f (op n : Int) : code_effect.f 10 op n = some (eff op n) := by
  unfold code_effect.f eff
  simp only [code_effect.j0, code_effect.j1, code_effect.j2]
  grind
/-- A height is noted at a place; whether it is the one that stands there. -/
def noteH (h : List Int) (at_ : Nat) (n : Int) : List Int := if rd h (at_ : Int) < 0 then h.set at_ n else h
/-- A jump. -/
def jmp (x : S54) : Bool := x.f0 == 30 || x.f0 == 31
def hRun (l : List S54) : Nat → Nat → List Int → Bool
  | 0, _, h => rd h (l.length : Int) == 1
  | k + 1, i, h =>
    let x := rd_T54 l (i : Int)
    let e := eff x.f0 x.f1
    let jump := jmp x
    if e.2.2 = false then false
    else if jump && (decide (x.f1 ≤ (i : Int)) || decide (x.f1 > (l.length : Int))) then false
    else if rd h (i : Int) < 0 then hRun l k (i + 1) h
    else
      let n := wrap64 (wrap64 (rd h (i : Int) - e.1) + e.2.1)
      if rd h (i : Int) < e.1 ∨ n > 64 then false
      else
        let h1 := if jump then noteH h x.f1.toNat n else h
        if jump && rd h1 x.f1 != n then false
        else if x.f0 = 30 then hRun l k (i + 1) h1
        else
          let h2 := noteH h1 (i + 1) n
          if rd h2 ((i : Int) + 1) != n then false else hRun l k (i + 1) h2
def hOk (l : List S54) : Bool := if l.length = 0 ∨ l.length > 1024 then false else hRun l l.length 0 (0 :: List.replicate l.length (-1))
theorem eff_bounds (op n : Int) : 0 ≤ (eff op n).1 ∧ (eff op n).1 ≤ 2 ∧ 0 ≤ (eff op n).2.1 ∧ (eff op n).2.1 ≤ 1 := by
  unfold eff
  split <;> (try split) <;> (try split) <;> (try split) <;> (try split) <;> simp
theorem length_noteH (h : List Int) (p : Nat) (n : Int) : (noteH h p n).length = h.length := by unfold noteH; split <;> simp
theorem box54_0 {w : World} {b : Nat} {x y : Value} (h : w.heap[b]? = some (.cells #[x, y] 54 (0, 0))) : w.cell? ⟨b, 0, none⟩ = some x := by simp [World.cell?, h]
theorem box54_1 {w : World} {b : Nat} {x y : Value} (h : w.heap[b]? = some (.cells #[x, y] 54 (0, 0))) : w.cell? ⟨b, 1, none⟩ = some y := by simp [World.cell?, h]
/-- A block of numbers. -/
def NumBlock (w : World) (g : Nat) (xs : List Int) : Prop := w.heap[g]? = some (.cells (nums .i64 xs).toArray 3 (0, 0))
theorem NumBlock.cell {w : World} {g : Nat} {xs : List Int} (h : NumBlock w g xs) (i : Nat) (hi : i < xs.length) : w.cell? ⟨g, i, none⟩ = some (.int .i64 (rd xs (i : Int))) := by
  unfold NumBlock at h
  simp [World.cell?, h, nums, rd, hi]
theorem NumBlock.free {w : World} {g : Nat} {xs : List Int} (h : NumBlock w g xs) (i : Nat) : w.frozen? ⟨g, i, none⟩ = false := by
  unfold NumBlock at h
  simp [World.frozen?, h]
theorem NumBlock.set {w : World} {g : Nat} {xs : List Int} (h : NumBlock w g xs) (i : Nat) (hi : i < xs.length) (v : Int) : NumBlock (w.setCell ⟨g, i, none⟩ (.int .i64 v)) g (xs.set i v) := by
  unfold NumBlock at h ⊢
  have hlt := lt_of_block h
  have h' : w.heap[g] = .cells (nums .i64 xs).toArray 3 (0, 0) := by simpa [Array.getElem?_eq_getElem hlt] using h
  show (w.heap.modify g _)[g]? = _
  rw [Array.getElem?_eq_getElem (by simpa using hlt), Array.getElem_modify_self, h']
  simp [nums, List.map_set]
set_option maxHeartbeats 1000000 in
set_option maxRecDepth 100000 in
theorem reach_calls (base g b : Nat) (xs : List Int) (i : Nat) (n : Int) (w : World) (hi : i < xs.length) (hg : NumBlock w g xs) (hb : w.heap[b]? = some (.cells #[.slice (some ⟨g, 0, none⟩) xs.length xs.length] 49 (0, 0))) (hgb : g ≠ b) (h1 : base ≤ g) (h2 : base ≤ b) :
    Calls Try.prog 39 #[.int .i64 (i : Int), .int .i64 n, .pointer (some ⟨b, 0, none⟩)] w fun e w' => e = .returned (.bool ((if rd xs (i : Int) < 0 then n else rd xs (i : Int)) == n)) ∧
      NumBlock w' g (if rd xs (i : Int) < 0 then xs.set i n else xs) ∧ w'.heap[b]? = some (.cells #[.slice (some ⟨g, 0, none⟩) xs.length xs.length] 49 (0, 0)) ∧ Below base w w' ∧ (∀ k, k ≠ g → w'.heap[k]? = w.heap[k]?) := by
  have hbc := cell_of_one hb
  have hbf := free_of_one hb
  have hgc := hg.cell i hi
  have hgf := hg.free i
  by_cases c : rd xs (i : Int) < 0
  · have c' : decide (rd xs (i : Int) < 0) = true := decide_eq_true c
    go_enter Try.func39, Try.ntmps39
    go_wp2
    go_ret
    exact ⟨rfl, hg.set i hi n, by rw [Below.heap_setCell _ _ _ _ (fun e => hgb e.symm)]; exact hb, (Below.refl _ _).setCell h1 _, fun k hk => Below.heap_setCell _ _ _ _ hk⟩
  · have c' : decide (rd xs (i : Int) < 0) = false := decide_eq_false c
    go_enter Try.func39, Try.ntmps39
    go_wp2
    go_ret
    exact ⟨rfl, hg, hb, Below.refl _ _, fun _ _ => rfl⟩
/-- What a call owns whole is a block. -/
theorem row_block {w : World} {base g n : Nat} {e : TypeId} {xs : List Value} (h : w.ownsRow base e 1 (.slice (some ⟨g, 0, none⟩) n n) n xs) : w.heap[g]? = some (.cells xs.toArray e (0, 0)) := by
  obtain ⟨h1, h2⟩ := h
  rcases h2 with ⟨h2, _⟩ | ⟨g', cap, cur, hv, hb, hg, hn, hm, hc, ht⟩
  · cases h2
  · injection hv with e1 e2 e3
    injection e1 with e1
    injection e1 with e1
    subst e1 e3
    rw [Nat.mul_one] at hc ht
    rw [List.take_of_length_le (by simp; omega)] at ht
    rw [hg, ← ht]
theorem mul_one' : ∀ n : Fin 1026, bits_Mul.f 1 (n.1 : Int) = some (0, (n.1 : Int)) := by decide +kernel
set_option maxHeartbeats 1000000 in
set_option maxRecDepth 100000 in
theorem repeat_calls (n : Nat) (h1 : 1 ≤ n) (hn : n ≤ 1025) (a : Nat) (w : World) (hsrc : w.cell? ⟨a, 0, none⟩ = some (.int .i64 (-1))) :
    Calls Try.prog 38 #[.slice (some ⟨a, 0, none⟩) 1 1, .int .i64 (n : Int)] w fun e w' => ∃ g, e = .returned (.slice (some ⟨g, 0, none⟩) n n) ∧ w.heap.size ≤ g ∧ NumBlock w' g (List.replicate n (-1)) ∧ Below w.heap.size w w' := by
  have hm := mul_one' ⟨n, by omega⟩
  have c1 : decide ((n : Int) < 0) = false := decide_eq_false (by omega)
  have c2 : decide ((9223372036854775807 : Int) < (n : Int)) = false := decide_eq_false (by omega)
  have c3 : IntKind.u64.wrap (n : Int) = (n : Int) := by unfold IntKind.wrap; simp [IntKind.bits, IntKind.signed]; omega
  go_enter Try.func38, Try.ntmps38
  obtain ⟨i3, hi3, hz, hs, hbt⟩ := info_parts info3
  go_wp2_with (first | (go_at_call 52; (with_reducible refine (bits_Mul.calls _ _ _ _ _ hm).mono ?_); rintro e w' ⟨rfl, ⟨nd, rfl⟩⟩; obtain ⟨W5, hmk, hown, hgr⟩ := run_make_full (P := Try.prog) (w.drewN nd) w.heap.size 49 3 i3 (.int .i64 0) 1 Try.underlying49 hi3 hz hs .i64 .i64 n (by rw [hbt]; omega) (by unfold maxLen; omega) (Nat.le_refl _); have hblk : W5.heap[w.heap.size]? = some (.cells (List.replicate n (Value.int .i64 0)).toArray 3 (0, 0)) := (row_block hown).trans (by rw [show (Value.int IntKind.i64 0).cells = #[.int .i64 0] from rfl, toList_madeCells_one, Nat.mul_one]); have hb5 : Below w.heap.size w W5 := (pw_below_drewN (Below.refl w.heap.size w) nd).grown hgr (Nat.le_refl _) (fun k hk => by cases hk); have hc5 : W5.cell? ⟨a, 0, none⟩ = some (.int .i64 (-1)) := hgr.cell (show (w.drewN nd).cell? _ = _ from hsrc) (by simp); clear hown hgr) |
    (with_reducible refine wpList_copy_splice rfl (.tmp 31) (.tmp 32) 49 49 rfl 3 Try.underlying49 (by kernel_rfl) (some ⟨w.heap.size, 0, none⟩) (some ⟨a, 0, none⟩) n n 1 1 rfl rfl w.heap.size 0 (List.replicate n (Value.int .i64 0)) 3 hblk [.int .i64 (-1)] ?h1 ?h2 ?h3 ?h4 w.heap.size w hb5 (Nat.le_refl _) ?_))
  case h1 => show 1 = min 1 n; omega
  case h2 =>
    intro j v hj
    cases j with
    | zero => cases hj; exact hc5
    | succ j => cases hj
  case h3 => simp; omega
  case h4 => intro v hv; rw [List.mem_singleton.1 hv]; rfl
  intro W6 hg6 hb6
  have HN : NumBlock W6 w.heap.size ((-1) :: List.replicate (n - 1) 0) := by
    refine Eq.trans hg6 ?_
    obtain ⟨m, rfl⟩ : ∃ m, n = m + 1 := ⟨n - 1, by omega⟩
    simp [splice, nums, List.replicate_succ]
  clear hg6 hblk hb5 hc5 hmk
  go_wp2
  go_loopg [8] n (fun kq v8 wr => ∃ (k : Nat) (cur : List Int), v8 = .int .i64 (k : Int) ∧ 1 ≤ k ∧ k ≤ n ∧ n ≤ k + kq ∧ cur.length = n ∧ (∀ j, j < k → cur[j]? = some (-1)) ∧ NumBlock wr w.heap.size cur ∧ Below w.heap.size w wr)
  case atStart =>
    refine ⟨1, _, rfl, Nat.le_refl _, h1, by omega, by simp; omega, fun j hj => ?_, HN, hb6⟩
    obtain rfl : j = 0 := by omega
    rfl
  case round =>
    clear HN hb6
    obtain ⟨k, cur, rfl, hk1, hkn, hkg, hlen, hcur, HB, hb⟩ := hrel
    by_cases hlt : k < n
    · have c4 : decide ((k : Int) < (n : Int)) = true := decide_eq_true (by omega)
      obtain ⟨m, hm'⟩ : ∃ m, m = min k (n - k) := ⟨_, rfl⟩
      have c5 : decide ((k : Int) ≤ (n : Int)) = true := decide_eq_true (by omega)
      have hbl : w.heap.size < wr.heap.size := lt_of_block HB
      have hml : (nums .i64 (cur.take m)).length = m := by simp [nums]; omega
      have hsl : ∀ j v, (nums .i64 (cur.take m))[j]? = some v → wr.cell? ((⟨w.heap.size, 0, none⟩ : Addr).add j) = some v := by
        intro j v hj
        have hjm : j < m := by
          rcases Nat.lt_or_ge j m with h | h
          · exact h
          · rw [List.getElem?_eq_none (by omega)] at hj; cases hj
        have hc := HB.cell j (by omega)
        have h0 := hcur j (by omega)
        have hrd : rd cur (j : Int) = -1 := by unfold rd; simp [List.getD_eq_getElem?_getD, h0]
        rw [hrd] at hc
        have hv : v = .int .i64 (-1) := by
          simp only [nums, List.getElem?_map, List.getElem?_take, if_pos hjm, h0] at hj
          simpa using hj.symm
        subst hv
        cases j with
        | zero => exact hc
        | succ j => simpa [Addr.add] using hc
      have hone : ∀ v ∈ nums .i64 (cur.take m), v.oneCell' = true := by
        intro v hv
        obtain ⟨x, _, rfl⟩ := List.mem_map.1 hv
        rfl
      cases gk with
      | zero => omega
      | succ gk =>
      go_wp2
      go_region_law (refine step_copy_splice rfl (.tmp 41) (.tmp 44) 49 49 rfl 3 Try.underlying49 (by kernel_rfl) (some ⟨w.heap.size, k, none⟩) (some ⟨w.heap.size, 0, none⟩) (n - k) (n - k) k n (by simp [Act.eval, Act.put]; omega) (by simp [Act.eval, Act.put]) w.heap.size k (nums .i64 cur) 3 HB (nums .i64 (cur.take m)) (hml.trans hm') (fun _ => ⟨rfl, _, rfl, hsl⟩) (by rw [hml]; simp [nums]; omega) hone w.heap.size w (below_drew hb) (Nat.le_refl _) ?_; intro W7 hg7 hb7)
      have hnew : NumBlock W7 w.heap.size (cur.take k ++ (cur.take m ++ cur.drop (k + m))) := by
        refine Eq.trans hg7 ?_
        unfold splice
        rw [hml]
        simp [nums, List.map_take, List.map_drop]
      clear hg7
      go_wp2
      have hml2 : (nums .i64 (cur.take (min k (n - k)))).length = min k (n - k) := by simp [nums]; omega
      go_roundg gk
      case measure => omega
      case rel =>
        refine ⟨k + m, _, ?_, by omega, by omega, by omega, by simp; omega, fun j hj => ?_, hnew, hb7⟩
        · rw [hml2, ← hm']
          rw [i64_w]
          congr 1
          unfold wrap64
          omega
        · by_cases hjk : j < k
          · rw [List.getElem?_append_left (by simp; omega), List.getElem?_take, if_pos hjk]; exact hcur j hjk
          · rw [List.getElem?_append_right (by simp; omega), List.getElem?_append_left (by simp; omega), List.getElem?_take, if_pos (by simp; omega)]
            exact hcur _ (by simp; omega)
    · obtain rfl : k = n := by omega
      have c4 : decide ((k : Int) < (k : Int)) = false := decide_eq_false (by omega)
      go_wp2
      go_ret
      refine ⟨w.heap.size, rfl, Nat.le_refl _, ?_, hb⟩
      rw [show List.replicate k (-1) = cur from ?_]
      · exact HB
      · apply List.ext_getElem?
        intro j
        by_cases hj : j < k
        · rw [hcur j hj]; simp [hj]
        · have hlr : (List.replicate k (-1 : Int)).length = k := List.length_replicate
          rw [List.getElem?_eq_none (by omega), List.getElem?_eq_none (by omega)]
theorem reach2 (base g b : Nat) (xs : List Int) (i : Nat) (n : Int) (w : World) (hi : i < xs.length) (hg : NumBlock w g xs) (hb : w.heap[b]? = some (.cells #[.slice (some ⟨g, 0, none⟩) xs.length xs.length] 49 (0, 0))) (hgb : g ≠ b) (h1 : base ≤ g) (h2 : base ≤ b) :
    Calls Try.prog 39 #[.int .i64 (i : Int), .int .i64 n, .pointer (some ⟨b, 0, none⟩)] w fun e w' => e = .returned (.bool (rd (noteH xs i n) (i : Int) == n)) ∧
      NumBlock w' g (noteH xs i n) ∧ w'.heap[b]? = some (.cells #[.slice (some ⟨g, 0, none⟩) xs.length xs.length] 49 (0, 0)) ∧ Below base w w' ∧ (∀ k, k ≠ g → w'.heap[k]? = w.heap[k]?) := by
  refine (reach_calls base g b xs i n w hi hg hb hgb h1 h2).mono ?_
  rintro e w' ⟨rfl, h3, h4, h5, h6⟩
  refine ⟨?_, h3, h4, h5, h6⟩
  congr 3
  unfold noteH
  split
  · unfold rd; simp [List.getD_eq_getElem?_getD, hi]
  · rfl
set_option maxHeartbeats 40000000 in
set_option maxRecDepth 100000 in
theorem heights_calls (A : Option Addr) (c : Nat) (l : List S54) (w : World) (hr : Kd.C k54 w A l.length l) (hc : l.length ≤ c) :
    Calls Try.prog 24 #[.slice A l.length c] w fun e w' => ∃ v, e = .returned (.tuple #[v, .bool (hOk l)]) ∧ Below w.heap.size w w' := by
  by_cases h0 : l.length = 0
  · have c1 : ((l.length : Int) == 0) = true := by simp [h0]
    have hO : hOk l = false := by unfold hOk; rw [if_pos (by omega)]
    rw [hO]
    go_enter Try.func24, Try.ntmps24
    go_wp2
    go_ret2
    exact ⟨.slice none 0 0, rfl, Below.refl _ _⟩
  · have c1 : ((l.length : Int) == 0) = false := beq_eq_false_iff_ne.2 (by omega)
    by_cases h1 : l.length > 1024
    · have c2 : decide ((1024 : Int) < (l.length : Int)) = true := decide_eq_true (by omega)
      have hO : hOk l = false := by unfold hOk; rw [if_pos (by omega)]
      rw [hO]
      go_enter Try.func24, Try.ntmps24
      go_wp2
      go_ret2
      exact ⟨.slice none 0 0, rfl, Below.refl _ _⟩
    · have c2 : decide ((1024 : Int) < (l.length : Int)) = false := decide_eq_false (by omega)
      have e1 : wrap64 ((l.length : Int) + 1) = ((l.length + 1 : Nat) : Int) := by unfold wrap64; omega
      have hsz := World.size_alloc w (.cells #[.int .i64 (-1)] 3)
      go_enter Try.func24, Try.ntmps24
      go_wp2_with (first | (go_at_call 38; go_loud (rw [show (l.length : Int) + 1 = ((l.length + 1 : Nat) : Int) by omega]; refine (repeat_calls (l.length + 1) (by omega) (by omega) w.heap.size _ (World.cell?_alloc_new w _ 3 0)).mono ?_; rintro e w1 ⟨g, rfl, hg0, hN, hB0⟩; have hg : w.heap.size < g := (by omega); have hB : Below w.heap.size w w1 := ((Below.refl w.heap.size w).alloc (Nat.le_refl _) _).trans (hB0.mono (by omega)); clear hB0; have hgl := lt_of_block hN; have hgc := hN.cell 0 (by simp); have hgf := hN.free 0)))
      have hbne : g ≠ w1.heap.size := (by omega)
      have hgd : ∀ v : Value, (w1.setCell ⟨g, 0, none⟩ v).heap.size = w1.heap.size := fun v => by simp [World.setCell]
      have HN0 := hN.set 0 (by simp) 0
      go_loopg [31] l.length (fun kq v31 wr => ∃ (i : Nat) (h : List Int), v31 = .int .i64 (i : Int) ∧ i ≤ l.length ∧ l.length - i ≤ kq ∧ hRun l (l.length - i) i h = hOk l ∧ h.length = l.length + 1 ∧ NumBlock wr g h ∧
        wr.heap[w1.heap.size]? = some (.cells #[.slice (some ⟨g, 0, none⟩) (l.length + 1) (l.length + 1)] 49 (0, 0)) ∧ Below w.heap.size w wr)
      case atStart =>
        refine ⟨0, 0 :: List.replicate l.length (-1), rfl, Nat.zero_le _, by omega, by unfold hOk; rw [if_neg (by omega), Nat.sub_zero], by simp, ?_, ?_, ?_⟩
        · exact (Below.heap_alloc _ _ g (by rw [hgd]; exact hgl)).trans HN0
        · rw [← hgd (.int .i64 0)]; exact heap_alloc_new _ _
        · exact (hB.setCell (p := ⟨g, 0, none⟩) (Nat.le_of_lt hg) _).alloc (by rw [hgd]; omega) _
      case round =>
        obtain ⟨i, h, rfl, hil, hik, hrun, hhl, HB, Hb, hb⟩ := hrel
        by_cases hlt : i < l.length
        · have d1 : decide ((i : Int) < (l.length : Int)) = true := decide_eq_true (by omega)
          have hrr := Kd.C_below hr hb
          obtain ⟨ad, rfl, hx0, hx1⟩ := at_T54 hrr (i : Int) (by omega) (by omega)
          rw [Int.toNat_natCast] at hx0 hx1
          have hbc := cell_of_one Hb
          have hbf := free_of_one Hb
          have hbl := lt_of_block Hb
          have hgl' := lt_of_block HB
          have hic := HB.cell i (by omega)
          have hif := HB.free i
          rw [show l.length - i = (l.length - (i + 1)) + 1 by omega, hRun] at hrun
          simp only at hrun
          revert hx0 hx1 hrun
          generalize hxe : rd_T54 l (i : Int) = x
          intro hx0 hx1 hrun
          obtain ⟨op, na⟩ := x
          have hef := eff_f op na
          have heb := eff_bounds op na
          simp only at hx0 hx1 hrun
          revert hrun hef heb
          generalize eff op na = e
          obtain ⟨ta, pu, ok⟩ := e
          intro hef heb hrun
          simp only at hrun heb
          have hih := HB.cell i (by omega)
          have hsz2 := World.size_alloc wr (.cells #[.int .i64 op, .int .i64 na] 54)
          cases ok with
          | false =>
            rw [if_pos rfl] at hrun
            have hO : hOk l = false := hrun.symm
            clear hrun
            go_wp2_with (first | (go_at_call 40; (with_reducible refine (code_effect.calls 10 _ _ _ _ _ _ hef).mono ?_); rintro e w2 ⟨rfl, hB2⟩; have HB2 : NumBlock w2 g h := ((hB2.block g (by omega)).trans (Below.heap_alloc _ _ g hgl')).trans HB; have Hb2 := ((hB2.block w1.heap.size (by omega)).trans (Below.heap_alloc _ _ _ hbl)).trans Hb; have Hx2 := (hB2.block wr.heap.size (by omega)).trans (heap_alloc_new _ _); have hb2 : Below w.heap.size w w2 := below_then (hb.alloc (by omega) _) (by omega) hB2; clear hB2; have hbc := cell_of_one Hb2; have hbf := free_of_one Hb2; have hic := HB2.cell i (by omega); have hif := HB2.free i; have hbl := lt_of_block Hb2; have hgl' := lt_of_block HB2; have hxl := lt_of_block Hx2; have hX0 := box54_0 Hx2; have hX1 := box54_1 Hx2))
            go_ret2
            rw [hO]
            exact ⟨.slice none 0 0, rfl, hb2⟩
          | true =>
            rw [if_neg (by decide)] at hrun
            by_cases j30 : op = 30
            · subst j30
              have hj : jmp ⟨30, na⟩ = true := rfl
              rw [hj] at hrun
              simp only [Bool.true_and, if_true] at hrun
              by_cases c1 : na ≤ (i : Int)
              · have e1 : decide (na ≤ (i : Int)) = true := decide_eq_true c1
                rw [if_pos (by simp [c1])] at hrun
                have hO : hOk l = false := hrun.symm
                clear hrun
                go_wp2_with (first | (go_at_call 40; (with_reducible refine (code_effect.calls 10 _ _ _ _ _ _ hef).mono ?_); rintro e w2 ⟨rfl, hB2⟩; have HB2 : NumBlock w2 g h := ((hB2.block g (by omega)).trans (Below.heap_alloc _ _ g hgl')).trans HB; have Hb2 := ((hB2.block w1.heap.size (by omega)).trans (Below.heap_alloc _ _ _ hbl)).trans Hb; have Hx2 := (hB2.block wr.heap.size (by omega)).trans (heap_alloc_new _ _); have hb2 : Below w.heap.size w w2 := below_then (hb.alloc (by omega) _) (by omega) hB2; clear hB2; have hbc := cell_of_one Hb2; have hbf := free_of_one Hb2; have hic := HB2.cell i (by omega); have hif := HB2.free i; have hbl := lt_of_block Hb2; have hgl' := lt_of_block HB2; have hxl := lt_of_block Hx2; have hX0 := box54_0 Hx2; have hX1 := box54_1 Hx2))
                go_ret2
                rw [hO]
                exact ⟨.slice none 0 0, rfl, hb2⟩
              have e1 : decide (na ≤ (i : Int)) = false := decide_eq_false c1
              by_cases c2 : (l.length : Int) < na
              · have e2 : decide ((l.length : Int) < na) = true := decide_eq_true c2
                rw [if_pos (by simp [c2])] at hrun
                have hO : hOk l = false := hrun.symm
                clear hrun
                go_wp2_with (first | (go_at_call 40; (with_reducible refine (code_effect.calls 10 _ _ _ _ _ _ hef).mono ?_); rintro e w2 ⟨rfl, hB2⟩; have HB2 : NumBlock w2 g h := ((hB2.block g (by omega)).trans (Below.heap_alloc _ _ g hgl')).trans HB; have Hb2 := ((hB2.block w1.heap.size (by omega)).trans (Below.heap_alloc _ _ _ hbl)).trans Hb; have Hx2 := (hB2.block wr.heap.size (by omega)).trans (heap_alloc_new _ _); have hb2 : Below w.heap.size w w2 := below_then (hb.alloc (by omega) _) (by omega) hB2; clear hB2; have hbc := cell_of_one Hb2; have hbf := free_of_one Hb2; have hic := HB2.cell i (by omega); have hif := HB2.free i; have hbl := lt_of_block Hb2; have hgl' := lt_of_block HB2; have hxl := lt_of_block Hx2; have hX0 := box54_0 Hx2; have hX1 := box54_1 Hx2))
                go_ret2
                rw [hO]
                exact ⟨.slice none 0 0, rfl, hb2⟩
              have e2 : decide ((l.length : Int) < na) = false := decide_eq_false c2
              rw [if_neg (by simp [c1, c2]; try omega)] at hrun
              obtain ⟨N, rfl⟩ : ∃ N : Nat, na = (N : Int) := ⟨na.toNat, by omega⟩
              by_cases c3 : rd h (i : Int) < 0
              · have e3 : decide (rd h (i : Int) < 0) = true := decide_eq_true c3
                rw [if_pos c3] at hrun
                cases gk with
                | zero => omega
                | succ gk =>
                go_wp2_with (first | (go_at_call 40; (with_reducible refine (code_effect.calls 10 _ _ _ _ _ _ hef).mono ?_); rintro e w2 ⟨rfl, hB2⟩; have HB2 : NumBlock w2 g h := ((hB2.block g (by omega)).trans (Below.heap_alloc _ _ g hgl')).trans HB; have Hb2 := ((hB2.block w1.heap.size (by omega)).trans (Below.heap_alloc _ _ _ hbl)).trans Hb; have Hx2 := (hB2.block wr.heap.size (by omega)).trans (heap_alloc_new _ _); have hb2 : Below w.heap.size w w2 := below_then (hb.alloc (by omega) _) (by omega) hB2; clear hB2; have hbc := cell_of_one Hb2; have hbf := free_of_one Hb2; have hic := HB2.cell i (by omega); have hif := HB2.free i; have hbl := lt_of_block Hb2; have hgl' := lt_of_block HB2; have hxl := lt_of_block Hx2; have hX0 := box54_0 Hx2; have hX1 := box54_1 Hx2))
                go_roundg gk
                case measure => omega
                case rel =>
                  refine ⟨i + 1, h, by (first | rfl | (congr 1) | (simp)), by omega, by omega, by rw [← hrun, show l.length - (i + 1) = l.length - (i + 1) from rfl], by (try simp only [length_noteH]); omega, HB2, Hb2, hb2⟩
              have e3 : decide (rd h (i : Int) < 0) = false := decide_eq_false c3
              rw [if_neg c3] at hrun
              by_cases c4 : rd h (i : Int) < ta
              · have e4 : decide (rd h (i : Int) < ta) = true := decide_eq_true c4
                rw [if_pos (Or.inl c4)] at hrun
                have hO : hOk l = false := hrun.symm
                clear hrun
                go_wp2_with (first | (go_at_call 40; (with_reducible refine (code_effect.calls 10 _ _ _ _ _ _ hef).mono ?_); rintro e w2 ⟨rfl, hB2⟩; have HB2 : NumBlock w2 g h := ((hB2.block g (by omega)).trans (Below.heap_alloc _ _ g hgl')).trans HB; have Hb2 := ((hB2.block w1.heap.size (by omega)).trans (Below.heap_alloc _ _ _ hbl)).trans Hb; have Hx2 := (hB2.block wr.heap.size (by omega)).trans (heap_alloc_new _ _); have hb2 : Below w.heap.size w w2 := below_then (hb.alloc (by omega) _) (by omega) hB2; clear hB2; have hbc := cell_of_one Hb2; have hbf := free_of_one Hb2; have hic := HB2.cell i (by omega); have hif := HB2.free i; have hbl := lt_of_block Hb2; have hgl' := lt_of_block HB2; have hxl := lt_of_block Hx2; have hX0 := box54_0 Hx2; have hX1 := box54_1 Hx2))
                go_ret2
                rw [hO]
                exact ⟨.slice none 0 0, rfl, hb2⟩
              have e4 : decide (rd h (i : Int) < ta) = false := decide_eq_false c4
              by_cases c5 : 64 < (wrap64 (wrap64 (rd h (i : Int) - ta) + pu))
              · have e5 : decide (64 < (wrap64 (wrap64 (rd h (i : Int) - ta) + pu))) = true := decide_eq_true c5
                rw [if_pos (Or.inr c5)] at hrun
                have hO : hOk l = false := hrun.symm
                clear hrun
                go_wp2_with (first | (go_at_call 40; (with_reducible refine (code_effect.calls 10 _ _ _ _ _ _ hef).mono ?_); rintro e w2 ⟨rfl, hB2⟩; have HB2 : NumBlock w2 g h := ((hB2.block g (by omega)).trans (Below.heap_alloc _ _ g hgl')).trans HB; have Hb2 := ((hB2.block w1.heap.size (by omega)).trans (Below.heap_alloc _ _ _ hbl)).trans Hb; have Hx2 := (hB2.block wr.heap.size (by omega)).trans (heap_alloc_new _ _); have hb2 : Below w.heap.size w w2 := below_then (hb.alloc (by omega) _) (by omega) hB2; clear hB2; have hbc := cell_of_one Hb2; have hbf := free_of_one Hb2; have hic := HB2.cell i (by omega); have hif := HB2.free i; have hbl := lt_of_block Hb2; have hgl' := lt_of_block HB2; have hxl := lt_of_block Hx2; have hX0 := box54_0 Hx2; have hX1 := box54_1 Hx2))
                go_ret2
                rw [hO]
                exact ⟨.slice none 0 0, rfl, hb2⟩
              have e5 : decide (64 < (wrap64 (wrap64 (rd h (i : Int) - ta) + pu))) = false := decide_eq_false c5
              rw [if_neg (by omega)] at hrun
              rw [Int.toNat_natCast] at hrun
              by_cases c6 : rd (noteH h N (wrap64 (wrap64 (rd h (i : Int) - ta) + pu))) (N : Int) = (wrap64 (wrap64 (rd h (i : Int) - ta) + pu))
              rotate_left
              · have q6 : (rd (noteH h N (wrap64 (wrap64 (rd h (i : Int) - ta) + pu))) (N : Int) == (wrap64 (wrap64 (rd h (i : Int) - ta) + pu))) = false := beq_eq_false_iff_ne.2 c6
                rw [if_pos (by simp [c6])] at hrun
                have hO : hOk l = false := hrun.symm
                clear hrun
                go_wp2_with (first | (go_at_call 40; (with_reducible refine (code_effect.calls 10 _ _ _ _ _ _ hef).mono ?_); rintro e w2 ⟨rfl, hB2⟩; have HB2 : NumBlock w2 g h := ((hB2.block g (by omega)).trans (Below.heap_alloc _ _ g hgl')).trans HB; have Hb2 := ((hB2.block w1.heap.size (by omega)).trans (Below.heap_alloc _ _ _ hbl)).trans Hb; have Hx2 := (hB2.block wr.heap.size (by omega)).trans (heap_alloc_new _ _); have hb2 : Below w.heap.size w w2 := below_then (hb.alloc (by omega) _) (by omega) hB2; clear hB2; have hbc := cell_of_one Hb2; have hbf := free_of_one Hb2; have hic := HB2.cell i (by omega); have hif := HB2.free i; have hbl := lt_of_block Hb2; have hgl' := lt_of_block HB2; have hxl := lt_of_block Hx2; have hX0 := box54_0 Hx2; have hX1 := box54_1 Hx2) | (go_at_call 39; (with_reducible refine (reach2 w.heap.size g w1.heap.size h N _ w2 (by (try simp only [length_noteH]); omega) HB2 (by (try simp only [length_noteH]); rw [hhl]; exact Hb2) (by omega) (by omega) (by omega)).mono ?_); rintro e w3 ⟨rfl, HB3, hq1, hq2, hq3⟩; rw [q6]; have Hb3 := (hq3 w1.heap.size (fun e => by omega)).trans Hb2; have Hx3 := (hq3 wr.heap.size (fun e => by omega)).trans Hx2; have hb3 := hb2.trans hq2; clear hq1 hq2 hq3; have hbc := cell_of_one Hb3; have hbf := free_of_one Hb3; have hX0 := box54_0 Hx3; have hX1 := box54_1 Hx3))
                go_ret2
                rw [hO]
                exact ⟨.slice none 0 0, rfl, hb3⟩
              have q6 : (rd (noteH h N (wrap64 (wrap64 (rd h (i : Int) - ta) + pu))) (N : Int) == (wrap64 (wrap64 (rd h (i : Int) - ta) + pu))) = true := beq_iff_eq.2 c6
              rw [if_neg (by simp [c6])] at hrun
              cases gk with
              | zero => omega
              | succ gk =>
              go_wp2_with (first | (go_at_call 40; (with_reducible refine (code_effect.calls 10 _ _ _ _ _ _ hef).mono ?_); rintro e w2 ⟨rfl, hB2⟩; have HB2 : NumBlock w2 g h := ((hB2.block g (by omega)).trans (Below.heap_alloc _ _ g hgl')).trans HB; have Hb2 := ((hB2.block w1.heap.size (by omega)).trans (Below.heap_alloc _ _ _ hbl)).trans Hb; have Hx2 := (hB2.block wr.heap.size (by omega)).trans (heap_alloc_new _ _); have hb2 : Below w.heap.size w w2 := below_then (hb.alloc (by omega) _) (by omega) hB2; clear hB2; have hbc := cell_of_one Hb2; have hbf := free_of_one Hb2; have hic := HB2.cell i (by omega); have hif := HB2.free i; have hbl := lt_of_block Hb2; have hgl' := lt_of_block HB2; have hxl := lt_of_block Hx2; have hX0 := box54_0 Hx2; have hX1 := box54_1 Hx2) | (go_at_call 39; (with_reducible refine (reach2 w.heap.size g w1.heap.size h N _ w2 (by (try simp only [length_noteH]); omega) HB2 (by (try simp only [length_noteH]); rw [hhl]; exact Hb2) (by omega) (by omega) (by omega)).mono ?_); rintro e w3 ⟨rfl, HB3, hq1, hq2, hq3⟩; rw [q6]; have Hb3 := (hq3 w1.heap.size (fun e => by omega)).trans Hb2; have Hx3 := (hq3 wr.heap.size (fun e => by omega)).trans Hx2; have hb3 := hb2.trans hq2; clear hq1 hq2 hq3; have hbc := cell_of_one Hb3; have hbf := free_of_one Hb3; have hX0 := box54_0 Hx3; have hX1 := box54_1 Hx3))
              go_roundg gk
              case measure => omega
              case rel =>
                refine ⟨i + 1, (noteH h N (wrap64 (wrap64 (rd h (i : Int) - ta) + pu))), by (first | rfl | (congr 1) | (simp)), by omega, by omega, by rw [← hrun, show l.length - (i + 1) = l.length - (i + 1) from rfl], by (try simp only [length_noteH]); omega, HB3, Hb3, hb3⟩
            by_cases j31 : op = 31
            · subst j31
              have hj : jmp ⟨31, na⟩ = true := rfl
              rw [hj] at hrun
              simp only [Bool.true_and, if_true] at hrun
              by_cases c1 : na ≤ (i : Int)
              · have e1 : decide (na ≤ (i : Int)) = true := decide_eq_true c1
                rw [if_pos (by simp [c1])] at hrun
                have hO : hOk l = false := hrun.symm
                clear hrun
                go_wp2_with (first | (go_at_call 40; (with_reducible refine (code_effect.calls 10 _ _ _ _ _ _ hef).mono ?_); rintro e w2 ⟨rfl, hB2⟩; have HB2 : NumBlock w2 g h := ((hB2.block g (by omega)).trans (Below.heap_alloc _ _ g hgl')).trans HB; have Hb2 := ((hB2.block w1.heap.size (by omega)).trans (Below.heap_alloc _ _ _ hbl)).trans Hb; have Hx2 := (hB2.block wr.heap.size (by omega)).trans (heap_alloc_new _ _); have hb2 : Below w.heap.size w w2 := below_then (hb.alloc (by omega) _) (by omega) hB2; clear hB2; have hbc := cell_of_one Hb2; have hbf := free_of_one Hb2; have hic := HB2.cell i (by omega); have hif := HB2.free i; have hbl := lt_of_block Hb2; have hgl' := lt_of_block HB2; have hxl := lt_of_block Hx2; have hX0 := box54_0 Hx2; have hX1 := box54_1 Hx2))
                go_ret2
                rw [hO]
                exact ⟨.slice none 0 0, rfl, hb2⟩
              have e1 : decide (na ≤ (i : Int)) = false := decide_eq_false c1
              by_cases c2 : (l.length : Int) < na
              · have e2 : decide ((l.length : Int) < na) = true := decide_eq_true c2
                rw [if_pos (by simp [c2])] at hrun
                have hO : hOk l = false := hrun.symm
                clear hrun
                go_wp2_with (first | (go_at_call 40; (with_reducible refine (code_effect.calls 10 _ _ _ _ _ _ hef).mono ?_); rintro e w2 ⟨rfl, hB2⟩; have HB2 : NumBlock w2 g h := ((hB2.block g (by omega)).trans (Below.heap_alloc _ _ g hgl')).trans HB; have Hb2 := ((hB2.block w1.heap.size (by omega)).trans (Below.heap_alloc _ _ _ hbl)).trans Hb; have Hx2 := (hB2.block wr.heap.size (by omega)).trans (heap_alloc_new _ _); have hb2 : Below w.heap.size w w2 := below_then (hb.alloc (by omega) _) (by omega) hB2; clear hB2; have hbc := cell_of_one Hb2; have hbf := free_of_one Hb2; have hic := HB2.cell i (by omega); have hif := HB2.free i; have hbl := lt_of_block Hb2; have hgl' := lt_of_block HB2; have hxl := lt_of_block Hx2; have hX0 := box54_0 Hx2; have hX1 := box54_1 Hx2))
                go_ret2
                rw [hO]
                exact ⟨.slice none 0 0, rfl, hb2⟩
              have e2 : decide ((l.length : Int) < na) = false := decide_eq_false c2
              rw [if_neg (by simp [c1, c2]; try omega)] at hrun
              obtain ⟨N, rfl⟩ : ∃ N : Nat, na = (N : Int) := ⟨na.toNat, by omega⟩
              by_cases c3 : rd h (i : Int) < 0
              · have e3 : decide (rd h (i : Int) < 0) = true := decide_eq_true c3
                rw [if_pos c3] at hrun
                cases gk with
                | zero => omega
                | succ gk =>
                go_wp2_with (first | (go_at_call 40; (with_reducible refine (code_effect.calls 10 _ _ _ _ _ _ hef).mono ?_); rintro e w2 ⟨rfl, hB2⟩; have HB2 : NumBlock w2 g h := ((hB2.block g (by omega)).trans (Below.heap_alloc _ _ g hgl')).trans HB; have Hb2 := ((hB2.block w1.heap.size (by omega)).trans (Below.heap_alloc _ _ _ hbl)).trans Hb; have Hx2 := (hB2.block wr.heap.size (by omega)).trans (heap_alloc_new _ _); have hb2 : Below w.heap.size w w2 := below_then (hb.alloc (by omega) _) (by omega) hB2; clear hB2; have hbc := cell_of_one Hb2; have hbf := free_of_one Hb2; have hic := HB2.cell i (by omega); have hif := HB2.free i; have hbl := lt_of_block Hb2; have hgl' := lt_of_block HB2; have hxl := lt_of_block Hx2; have hX0 := box54_0 Hx2; have hX1 := box54_1 Hx2))
                go_roundg gk
                case measure => omega
                case rel =>
                  refine ⟨i + 1, h, by (first | rfl | (congr 1) | (simp)), by omega, by omega, by rw [← hrun, show l.length - (i + 1) = l.length - (i + 1) from rfl], by (try simp only [length_noteH]); omega, HB2, Hb2, hb2⟩
              have e3 : decide (rd h (i : Int) < 0) = false := decide_eq_false c3
              rw [if_neg c3] at hrun
              by_cases c4 : rd h (i : Int) < ta
              · have e4 : decide (rd h (i : Int) < ta) = true := decide_eq_true c4
                rw [if_pos (Or.inl c4)] at hrun
                have hO : hOk l = false := hrun.symm
                clear hrun
                go_wp2_with (first | (go_at_call 40; (with_reducible refine (code_effect.calls 10 _ _ _ _ _ _ hef).mono ?_); rintro e w2 ⟨rfl, hB2⟩; have HB2 : NumBlock w2 g h := ((hB2.block g (by omega)).trans (Below.heap_alloc _ _ g hgl')).trans HB; have Hb2 := ((hB2.block w1.heap.size (by omega)).trans (Below.heap_alloc _ _ _ hbl)).trans Hb; have Hx2 := (hB2.block wr.heap.size (by omega)).trans (heap_alloc_new _ _); have hb2 : Below w.heap.size w w2 := below_then (hb.alloc (by omega) _) (by omega) hB2; clear hB2; have hbc := cell_of_one Hb2; have hbf := free_of_one Hb2; have hic := HB2.cell i (by omega); have hif := HB2.free i; have hbl := lt_of_block Hb2; have hgl' := lt_of_block HB2; have hxl := lt_of_block Hx2; have hX0 := box54_0 Hx2; have hX1 := box54_1 Hx2))
                go_ret2
                rw [hO]
                exact ⟨.slice none 0 0, rfl, hb2⟩
              have e4 : decide (rd h (i : Int) < ta) = false := decide_eq_false c4
              by_cases c5 : 64 < (wrap64 (wrap64 (rd h (i : Int) - ta) + pu))
              · have e5 : decide (64 < (wrap64 (wrap64 (rd h (i : Int) - ta) + pu))) = true := decide_eq_true c5
                rw [if_pos (Or.inr c5)] at hrun
                have hO : hOk l = false := hrun.symm
                clear hrun
                go_wp2_with (first | (go_at_call 40; (with_reducible refine (code_effect.calls 10 _ _ _ _ _ _ hef).mono ?_); rintro e w2 ⟨rfl, hB2⟩; have HB2 : NumBlock w2 g h := ((hB2.block g (by omega)).trans (Below.heap_alloc _ _ g hgl')).trans HB; have Hb2 := ((hB2.block w1.heap.size (by omega)).trans (Below.heap_alloc _ _ _ hbl)).trans Hb; have Hx2 := (hB2.block wr.heap.size (by omega)).trans (heap_alloc_new _ _); have hb2 : Below w.heap.size w w2 := below_then (hb.alloc (by omega) _) (by omega) hB2; clear hB2; have hbc := cell_of_one Hb2; have hbf := free_of_one Hb2; have hic := HB2.cell i (by omega); have hif := HB2.free i; have hbl := lt_of_block Hb2; have hgl' := lt_of_block HB2; have hxl := lt_of_block Hx2; have hX0 := box54_0 Hx2; have hX1 := box54_1 Hx2))
                go_ret2
                rw [hO]
                exact ⟨.slice none 0 0, rfl, hb2⟩
              have e5 : decide (64 < (wrap64 (wrap64 (rd h (i : Int) - ta) + pu))) = false := decide_eq_false c5
              rw [if_neg (by omega)] at hrun
              rw [Int.toNat_natCast] at hrun
              by_cases c6 : rd (noteH h N (wrap64 (wrap64 (rd h (i : Int) - ta) + pu))) (N : Int) = (wrap64 (wrap64 (rd h (i : Int) - ta) + pu))
              rotate_left
              · have q6 : (rd (noteH h N (wrap64 (wrap64 (rd h (i : Int) - ta) + pu))) (N : Int) == (wrap64 (wrap64 (rd h (i : Int) - ta) + pu))) = false := beq_eq_false_iff_ne.2 c6
                rw [if_pos (by simp [c6])] at hrun
                have hO : hOk l = false := hrun.symm
                clear hrun
                go_wp2_with (first | (go_at_call 40; (with_reducible refine (code_effect.calls 10 _ _ _ _ _ _ hef).mono ?_); rintro e w2 ⟨rfl, hB2⟩; have HB2 : NumBlock w2 g h := ((hB2.block g (by omega)).trans (Below.heap_alloc _ _ g hgl')).trans HB; have Hb2 := ((hB2.block w1.heap.size (by omega)).trans (Below.heap_alloc _ _ _ hbl)).trans Hb; have Hx2 := (hB2.block wr.heap.size (by omega)).trans (heap_alloc_new _ _); have hb2 : Below w.heap.size w w2 := below_then (hb.alloc (by omega) _) (by omega) hB2; clear hB2; have hbc := cell_of_one Hb2; have hbf := free_of_one Hb2; have hic := HB2.cell i (by omega); have hif := HB2.free i; have hbl := lt_of_block Hb2; have hgl' := lt_of_block HB2; have hxl := lt_of_block Hx2; have hX0 := box54_0 Hx2; have hX1 := box54_1 Hx2) | (go_at_call 39; (with_reducible refine (reach2 w.heap.size g w1.heap.size h N _ w2 (by (try simp only [length_noteH]); omega) HB2 (by (try simp only [length_noteH]); rw [hhl]; exact Hb2) (by omega) (by omega) (by omega)).mono ?_); rintro e w3 ⟨rfl, HB3, hq1, hq2, hq3⟩; rw [q6]; have Hb3 := (hq3 w1.heap.size (fun e => by omega)).trans Hb2; have Hx3 := (hq3 wr.heap.size (fun e => by omega)).trans Hx2; have hb3 := hb2.trans hq2; clear hq1 hq2 hq3; have hbc := cell_of_one Hb3; have hbf := free_of_one Hb3; have hX0 := box54_0 Hx3; have hX1 := box54_1 Hx3))
                go_ret2
                rw [hO]
                exact ⟨.slice none 0 0, rfl, hb3⟩
              have q6 : (rd (noteH h N (wrap64 (wrap64 (rd h (i : Int) - ta) + pu))) (N : Int) == (wrap64 (wrap64 (rd h (i : Int) - ta) + pu))) = true := beq_iff_eq.2 c6
              rw [if_neg (by simp [c6])] at hrun
              rw [if_neg (by decide)] at hrun
              rw [show (i : Int) + 1 = ((i + 1 : Nat) : Int) from rfl] at hrun
              by_cases c7 : rd (noteH (noteH h N (wrap64 (wrap64 (rd h (i : Int) - ta) + pu))) (i + 1) (wrap64 (wrap64 (rd h (i : Int) - ta) + pu))) ((i + 1 : Nat) : Int) = (wrap64 (wrap64 (rd h (i : Int) - ta) + pu))
              rotate_left
              · have q7 : (rd (noteH (noteH h N (wrap64 (wrap64 (rd h (i : Int) - ta) + pu))) (i + 1) (wrap64 (wrap64 (rd h (i : Int) - ta) + pu))) ((i + 1 : Nat) : Int) == (wrap64 (wrap64 (rd h (i : Int) - ta) + pu))) = false := beq_eq_false_iff_ne.2 c7
                rw [if_pos (by simpa using c7)] at hrun
                have hO : hOk l = false := hrun.symm
                clear hrun
                go_wp2_with (first | (go_at_call 40; (with_reducible refine (code_effect.calls 10 _ _ _ _ _ _ hef).mono ?_); rintro e w2 ⟨rfl, hB2⟩; have HB2 : NumBlock w2 g h := ((hB2.block g (by omega)).trans (Below.heap_alloc _ _ g hgl')).trans HB; have Hb2 := ((hB2.block w1.heap.size (by omega)).trans (Below.heap_alloc _ _ _ hbl)).trans Hb; have Hx2 := (hB2.block wr.heap.size (by omega)).trans (heap_alloc_new _ _); have hb2 : Below w.heap.size w w2 := below_then (hb.alloc (by omega) _) (by omega) hB2; clear hB2; have hbc := cell_of_one Hb2; have hbf := free_of_one Hb2; have hic := HB2.cell i (by omega); have hif := HB2.free i; have hbl := lt_of_block Hb2; have hgl' := lt_of_block HB2; have hxl := lt_of_block Hx2; have hX0 := box54_0 Hx2; have hX1 := box54_1 Hx2) | (go_at_call 39; (with_reducible refine (reach2 w.heap.size g w1.heap.size h N _ w2 (by (try simp only [length_noteH]); omega) HB2 (by (try simp only [length_noteH]); rw [hhl]; exact Hb2) (by omega) (by omega) (by omega)).mono ?_); rintro e w3 ⟨rfl, HB3, hq1, hq2, hq3⟩; rw [q6]; have Hb3 := (hq3 w1.heap.size (fun e => by omega)).trans Hb2; have Hx3 := (hq3 wr.heap.size (fun e => by omega)).trans Hx2; have hb3 := hb2.trans hq2; clear hq1 hq2 hq3; have hbc := cell_of_one Hb3; have hbf := free_of_one Hb3; have hX0 := box54_0 Hx3; have hX1 := box54_1 Hx3) | (go_at_call 39; rw [show (i : Int) + 1 = ((i + 1 : Nat) : Int) from rfl]; (with_reducible refine (reach2 w.heap.size g w1.heap.size (noteH h N (wrap64 (wrap64 (rd h (i : Int) - ta) + pu))) (i + 1) _ w3 (by (try simp only [length_noteH]); omega) HB3 (by (try simp only [length_noteH]); rw [hhl]; exact Hb3) (by omega) (by omega) (by omega)).mono ?_); rintro e w4 ⟨rfl, HB4, hq1, hq2, hq3⟩; rw [q7]; have Hb4 := (hq3 w1.heap.size (fun e => by omega)).trans Hb3; have Hx4 := (hq3 wr.heap.size (fun e => by omega)).trans Hx3; have hb4 := hb3.trans hq2; clear hq1 hq2 hq3; have hbc := cell_of_one Hb4; have hbf := free_of_one Hb4; have hX0 := box54_0 Hx4; have hX1 := box54_1 Hx4))
                go_ret2
                rw [hO]
                exact ⟨.slice none 0 0, rfl, hb4⟩
              have q7 : (rd (noteH (noteH h N (wrap64 (wrap64 (rd h (i : Int) - ta) + pu))) (i + 1) (wrap64 (wrap64 (rd h (i : Int) - ta) + pu))) ((i + 1 : Nat) : Int) == (wrap64 (wrap64 (rd h (i : Int) - ta) + pu))) = true := beq_iff_eq.2 c7
              rw [if_neg (by simpa using c7)] at hrun
              cases gk with
              | zero => omega
              | succ gk =>
              go_wp2_with (first | (go_at_call 40; (with_reducible refine (code_effect.calls 10 _ _ _ _ _ _ hef).mono ?_); rintro e w2 ⟨rfl, hB2⟩; have HB2 : NumBlock w2 g h := ((hB2.block g (by omega)).trans (Below.heap_alloc _ _ g hgl')).trans HB; have Hb2 := ((hB2.block w1.heap.size (by omega)).trans (Below.heap_alloc _ _ _ hbl)).trans Hb; have Hx2 := (hB2.block wr.heap.size (by omega)).trans (heap_alloc_new _ _); have hb2 : Below w.heap.size w w2 := below_then (hb.alloc (by omega) _) (by omega) hB2; clear hB2; have hbc := cell_of_one Hb2; have hbf := free_of_one Hb2; have hic := HB2.cell i (by omega); have hif := HB2.free i; have hbl := lt_of_block Hb2; have hgl' := lt_of_block HB2; have hxl := lt_of_block Hx2; have hX0 := box54_0 Hx2; have hX1 := box54_1 Hx2) | (go_at_call 39; (with_reducible refine (reach2 w.heap.size g w1.heap.size h N _ w2 (by (try simp only [length_noteH]); omega) HB2 (by (try simp only [length_noteH]); rw [hhl]; exact Hb2) (by omega) (by omega) (by omega)).mono ?_); rintro e w3 ⟨rfl, HB3, hq1, hq2, hq3⟩; rw [q6]; have Hb3 := (hq3 w1.heap.size (fun e => by omega)).trans Hb2; have Hx3 := (hq3 wr.heap.size (fun e => by omega)).trans Hx2; have hb3 := hb2.trans hq2; clear hq1 hq2 hq3; have hbc := cell_of_one Hb3; have hbf := free_of_one Hb3; have hX0 := box54_0 Hx3; have hX1 := box54_1 Hx3) | (go_at_call 39; rw [show (i : Int) + 1 = ((i + 1 : Nat) : Int) from rfl]; (with_reducible refine (reach2 w.heap.size g w1.heap.size (noteH h N (wrap64 (wrap64 (rd h (i : Int) - ta) + pu))) (i + 1) _ w3 (by (try simp only [length_noteH]); omega) HB3 (by (try simp only [length_noteH]); rw [hhl]; exact Hb3) (by omega) (by omega) (by omega)).mono ?_); rintro e w4 ⟨rfl, HB4, hq1, hq2, hq3⟩; rw [q7]; have Hb4 := (hq3 w1.heap.size (fun e => by omega)).trans Hb3; have Hx4 := (hq3 wr.heap.size (fun e => by omega)).trans Hx3; have hb4 := hb3.trans hq2; clear hq1 hq2 hq3; have hbc := cell_of_one Hb4; have hbf := free_of_one Hb4; have hX0 := box54_0 Hx4; have hX1 := box54_1 Hx4))
              go_roundg gk
              case measure => omega
              case rel =>
                refine ⟨i + 1, (noteH (noteH h N (wrap64 (wrap64 (rd h (i : Int) - ta) + pu))) (i + 1) (wrap64 (wrap64 (rd h (i : Int) - ta) + pu))), by (first | rfl | (congr 1) | (simp)), by omega, by omega, by rw [← hrun, show l.length - (i + 1) = l.length - (i + 1) from rfl], by (try simp only [length_noteH]); omega, HB4, Hb4, hb4⟩
            have hj : jmp ⟨op, na⟩ = false := by simp [jmp, j30, j31]
            rw [hj] at hrun
            simp only [Bool.false_and, Bool.false_eq_true, if_false] at hrun
            have f1 : (op == 30) = false := beq_eq_false_iff_ne.2 j30
            have f2 : (op == 31) = false := beq_eq_false_iff_ne.2 j31
            have f3 : (op != 30) = true := by simp [j30]
            by_cases c3 : rd h (i : Int) < 0
            · have e3 : decide (rd h (i : Int) < 0) = true := decide_eq_true c3
              rw [if_pos c3] at hrun
              cases gk with
              | zero => omega
              | succ gk =>
              go_wp2_with (first | (go_at_call 40; (with_reducible refine (code_effect.calls 10 _ _ _ _ _ _ hef).mono ?_); rintro e w2 ⟨rfl, hB2⟩; have HB2 : NumBlock w2 g h := ((hB2.block g (by omega)).trans (Below.heap_alloc _ _ g hgl')).trans HB; have Hb2 := ((hB2.block w1.heap.size (by omega)).trans (Below.heap_alloc _ _ _ hbl)).trans Hb; have Hx2 := (hB2.block wr.heap.size (by omega)).trans (heap_alloc_new _ _); have hb2 : Below w.heap.size w w2 := below_then (hb.alloc (by omega) _) (by omega) hB2; clear hB2; have hbc := cell_of_one Hb2; have hbf := free_of_one Hb2; have hic := HB2.cell i (by omega); have hif := HB2.free i; have hbl := lt_of_block Hb2; have hgl' := lt_of_block HB2; have hxl := lt_of_block Hx2; have hX0 := box54_0 Hx2; have hX1 := box54_1 Hx2))
              go_roundg gk
              case measure => omega
              case rel =>
                refine ⟨i + 1, h, by (first | rfl | (congr 1) | (simp)), by omega, by omega, by rw [← hrun, show l.length - (i + 1) = l.length - (i + 1) from rfl], by (try simp only [length_noteH]); omega, HB2, Hb2, hb2⟩
            have e3 : decide (rd h (i : Int) < 0) = false := decide_eq_false c3
            rw [if_neg c3] at hrun
            by_cases c4 : rd h (i : Int) < ta
            · have e4 : decide (rd h (i : Int) < ta) = true := decide_eq_true c4
              rw [if_pos (Or.inl c4)] at hrun
              have hO : hOk l = false := hrun.symm
              clear hrun
              go_wp2_with (first | (go_at_call 40; (with_reducible refine (code_effect.calls 10 _ _ _ _ _ _ hef).mono ?_); rintro e w2 ⟨rfl, hB2⟩; have HB2 : NumBlock w2 g h := ((hB2.block g (by omega)).trans (Below.heap_alloc _ _ g hgl')).trans HB; have Hb2 := ((hB2.block w1.heap.size (by omega)).trans (Below.heap_alloc _ _ _ hbl)).trans Hb; have Hx2 := (hB2.block wr.heap.size (by omega)).trans (heap_alloc_new _ _); have hb2 : Below w.heap.size w w2 := below_then (hb.alloc (by omega) _) (by omega) hB2; clear hB2; have hbc := cell_of_one Hb2; have hbf := free_of_one Hb2; have hic := HB2.cell i (by omega); have hif := HB2.free i; have hbl := lt_of_block Hb2; have hgl' := lt_of_block HB2; have hxl := lt_of_block Hx2; have hX0 := box54_0 Hx2; have hX1 := box54_1 Hx2))
              go_ret2
              rw [hO]
              exact ⟨.slice none 0 0, rfl, hb2⟩
            have e4 : decide (rd h (i : Int) < ta) = false := decide_eq_false c4
            by_cases c5 : 64 < (wrap64 (wrap64 (rd h (i : Int) - ta) + pu))
            · have e5 : decide (64 < (wrap64 (wrap64 (rd h (i : Int) - ta) + pu))) = true := decide_eq_true c5
              rw [if_pos (Or.inr c5)] at hrun
              have hO : hOk l = false := hrun.symm
              clear hrun
              go_wp2_with (first | (go_at_call 40; (with_reducible refine (code_effect.calls 10 _ _ _ _ _ _ hef).mono ?_); rintro e w2 ⟨rfl, hB2⟩; have HB2 : NumBlock w2 g h := ((hB2.block g (by omega)).trans (Below.heap_alloc _ _ g hgl')).trans HB; have Hb2 := ((hB2.block w1.heap.size (by omega)).trans (Below.heap_alloc _ _ _ hbl)).trans Hb; have Hx2 := (hB2.block wr.heap.size (by omega)).trans (heap_alloc_new _ _); have hb2 : Below w.heap.size w w2 := below_then (hb.alloc (by omega) _) (by omega) hB2; clear hB2; have hbc := cell_of_one Hb2; have hbf := free_of_one Hb2; have hic := HB2.cell i (by omega); have hif := HB2.free i; have hbl := lt_of_block Hb2; have hgl' := lt_of_block HB2; have hxl := lt_of_block Hx2; have hX0 := box54_0 Hx2; have hX1 := box54_1 Hx2))
              go_ret2
              rw [hO]
              exact ⟨.slice none 0 0, rfl, hb2⟩
            have e5 : decide (64 < (wrap64 (wrap64 (rd h (i : Int) - ta) + pu))) = false := decide_eq_false c5
            rw [if_neg (by omega)] at hrun
            rw [if_neg j30] at hrun
            rw [show (i : Int) + 1 = ((i + 1 : Nat) : Int) from rfl] at hrun
            by_cases c7 : rd (noteH h (i + 1) (wrap64 (wrap64 (rd h (i : Int) - ta) + pu))) ((i + 1 : Nat) : Int) = (wrap64 (wrap64 (rd h (i : Int) - ta) + pu))
            rotate_left
            · have q7 : (rd (noteH h (i + 1) (wrap64 (wrap64 (rd h (i : Int) - ta) + pu))) ((i + 1 : Nat) : Int) == (wrap64 (wrap64 (rd h (i : Int) - ta) + pu))) = false := beq_eq_false_iff_ne.2 c7
              rw [if_pos (by simpa using c7)] at hrun
              have hO : hOk l = false := hrun.symm
              clear hrun
              go_wp2_with (first | (go_at_call 40; (with_reducible refine (code_effect.calls 10 _ _ _ _ _ _ hef).mono ?_); rintro e w2 ⟨rfl, hB2⟩; have HB2 : NumBlock w2 g h := ((hB2.block g (by omega)).trans (Below.heap_alloc _ _ g hgl')).trans HB; have Hb2 := ((hB2.block w1.heap.size (by omega)).trans (Below.heap_alloc _ _ _ hbl)).trans Hb; have Hx2 := (hB2.block wr.heap.size (by omega)).trans (heap_alloc_new _ _); have hb2 : Below w.heap.size w w2 := below_then (hb.alloc (by omega) _) (by omega) hB2; clear hB2; have hbc := cell_of_one Hb2; have hbf := free_of_one Hb2; have hic := HB2.cell i (by omega); have hif := HB2.free i; have hbl := lt_of_block Hb2; have hgl' := lt_of_block HB2; have hxl := lt_of_block Hx2; have hX0 := box54_0 Hx2; have hX1 := box54_1 Hx2) | (go_at_call 39; rw [show (i : Int) + 1 = ((i + 1 : Nat) : Int) from rfl]; (with_reducible refine (reach2 w.heap.size g w1.heap.size h (i + 1) _ w2 (by (try simp only [length_noteH]); omega) HB2 (by (try simp only [length_noteH]); rw [hhl]; exact Hb2) (by omega) (by omega) (by omega)).mono ?_); rintro e w4 ⟨rfl, HB4, hq1, hq2, hq3⟩; rw [q7]; have Hb4 := (hq3 w1.heap.size (fun e => by omega)).trans Hb2; have Hx4 := (hq3 wr.heap.size (fun e => by omega)).trans Hx2; have hb4 := hb2.trans hq2; clear hq1 hq2 hq3; have hbc := cell_of_one Hb4; have hbf := free_of_one Hb4; have hX0 := box54_0 Hx4; have hX1 := box54_1 Hx4))
              go_ret2
              rw [hO]
              exact ⟨.slice none 0 0, rfl, hb4⟩
            have q7 : (rd (noteH h (i + 1) (wrap64 (wrap64 (rd h (i : Int) - ta) + pu))) ((i + 1 : Nat) : Int) == (wrap64 (wrap64 (rd h (i : Int) - ta) + pu))) = true := beq_iff_eq.2 c7
            rw [if_neg (by simpa using c7)] at hrun
            cases gk with
            | zero => omega
            | succ gk =>
            go_wp2_with (first | (go_at_call 40; (with_reducible refine (code_effect.calls 10 _ _ _ _ _ _ hef).mono ?_); rintro e w2 ⟨rfl, hB2⟩; have HB2 : NumBlock w2 g h := ((hB2.block g (by omega)).trans (Below.heap_alloc _ _ g hgl')).trans HB; have Hb2 := ((hB2.block w1.heap.size (by omega)).trans (Below.heap_alloc _ _ _ hbl)).trans Hb; have Hx2 := (hB2.block wr.heap.size (by omega)).trans (heap_alloc_new _ _); have hb2 : Below w.heap.size w w2 := below_then (hb.alloc (by omega) _) (by omega) hB2; clear hB2; have hbc := cell_of_one Hb2; have hbf := free_of_one Hb2; have hic := HB2.cell i (by omega); have hif := HB2.free i; have hbl := lt_of_block Hb2; have hgl' := lt_of_block HB2; have hxl := lt_of_block Hx2; have hX0 := box54_0 Hx2; have hX1 := box54_1 Hx2) | (go_at_call 39; rw [show (i : Int) + 1 = ((i + 1 : Nat) : Int) from rfl]; (with_reducible refine (reach2 w.heap.size g w1.heap.size h (i + 1) _ w2 (by (try simp only [length_noteH]); omega) HB2 (by (try simp only [length_noteH]); rw [hhl]; exact Hb2) (by omega) (by omega) (by omega)).mono ?_); rintro e w4 ⟨rfl, HB4, hq1, hq2, hq3⟩; rw [q7]; have Hb4 := (hq3 w1.heap.size (fun e => by omega)).trans Hb2; have Hx4 := (hq3 wr.heap.size (fun e => by omega)).trans Hx2; have hb4 := hb2.trans hq2; clear hq1 hq2 hq3; have hbc := cell_of_one Hb4; have hbf := free_of_one Hb4; have hX0 := box54_0 Hx4; have hX1 := box54_1 Hx4))
            go_roundg gk
            case measure => omega
            case rel =>
              refine ⟨i + 1, (noteH h (i + 1) (wrap64 (wrap64 (rd h (i : Int) - ta) + pu))), by (first | rfl | (congr 1) | (simp)), by omega, by omega, by rw [← hrun, show l.length - (i + 1) = l.length - (i + 1) from rfl], by (try simp only [length_noteH]); omega, HB4, Hb4, hb4⟩
        · obtain rfl : i = l.length := by omega
          have d1 : decide ((l.length : Int) < (l.length : Int)) = false := decide_eq_false (by omega)
          have hbc := cell_of_one Hb
          have hbf := free_of_one Hb
          have hic := HB.cell l.length (by omega)
          have hif := HB.free l.length
          have d2 : decide ((l.length : Int) < ((l.length + 1 : Nat) : Int)) = true := decide_eq_true (by omega)
          rw [Nat.sub_self, hRun] at hrun
          go_wp2
          go_quiet (fail)
          go_wp2
          go_ret2
          exact ⟨_, rfl, pw_below_drewN hb _⟩
set_option maxRecDepth 100000 in
theorem check_calls (A : Option Addr) (c : Nat) (l : List S54) (w : World) (hr : Kd.C k54 w A l.length l) (hc : l.length ≤ c) :
    Calls Try.prog 11 #[.slice A l.length c] w fun e w' => e = .returned (.int .i64 (if hOk l = true then 0 else 1)) ∧ Below w.heap.size w w' := by
  have hh := heights_calls A c l w hr hc
  cases hO : hOk l with
  | true =>
    rw [hO] at hh
    go_enter Try.func11, Try.ntmps11
    go_wp2_with (first | (go_at_call 24; (with_reducible refine hh.mono ?_); rintro e w1 ⟨v, rfl, hb⟩))
    go_ret
    exact ⟨rfl, hb⟩
  | false =>
    rw [hO] at hh
    go_enter Try.func11, Try.ntmps11
    go_wp2_with (first | (go_at_call 24; (with_reducible refine hh.mono ?_); rintro e w1 ⟨v, rfl, hb⟩))
    go_ret
    exact ⟨rfl, hb⟩
def code_Check.f (l0 : List S54) : Option Int := some (if hOk l0 = true then 0 else 1)
theorem code_Check.calls (A0 : Option Addr) (c0 : Nat) (l0 : List (S54)) (r : Int) (w : World) (hr0 : Kd.C k54 w A0 l0.length l0) (hc0 : l0.length ≤ c0) (h : code_Check.f l0 = some r) :
    Calls Try.prog 11 #[.slice A0 l0.length c0] w fun e w' => e = .returned (.int .i64 r) ∧ Below w.heap.size w w' := by
  obtain rfl := Option.some.inj h
  exact check_calls A0 c0 l0 w hr0 hc0

end Go.Proofs.Ytekbcfgcojecmaa.P
