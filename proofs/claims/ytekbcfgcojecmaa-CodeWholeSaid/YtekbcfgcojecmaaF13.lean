-- Written by this session's program drv.py, by means of the kit's printer; not a text of print.sh.
import Derived.Test.YtekbcfgcojecmaaF0
import Derived.Test.YtekbcfgcojecmaaF11
import Derived.Test.YtekbcfgcojecmaaF14
import Derived.Test.YtekbcfgcojecmaaF16
import Derived.Test.YtekbcfgcojecmaaF18
namespace Go.Proofs.Ytekbcfgcojecmaa.P
open Go.RowKit Go.Proofs.YtekbcfgcojecmaaW.PrintWords Go.Proofs.YtekbcfgcojecmaaW.PrintLast Go.Proofs.YtekbcfgcojecmaaW.PrintMore
attribute [local go_sem] max2_int min2_int max_two min_two max_three min_three max_four min_four   -- for this text's walks alone
set_option linter.unusedVariables false
set_option linter.unusedSimpArgs false

theorem flat_get {α : Type} (sz : Nat) : ∀ (ps : List (α × List Value)), (∀ p ∈ ps, p.2.length = sz) → ∀ (j : Nat) (p : α × List Value), ps[j]? = some p → ∀ i, i < sz → (ps.flatMap (·.2))[j * sz + i]? = p.2[i]? := by
  intro ps
  induction ps with
  | nil => intro _ j p hj; simp at hj
  | cons q ps ih =>
    intro hl j p hj i hi
    have hq := hl q (by simp)
    rw [List.flatMap_cons]
    cases j with
    | zero =>
      obtain rfl : q = p := by simpa using hj
      rw [List.getElem?_append_left (by omega), Nat.zero_mul, Nat.zero_add]
    | succ j =>
      rw [List.getElem?_append_right (by rw [hq, Nat.succ_mul]; omega), hq, show (j + 1) * sz + i - sz = j * sz + i by rw [Nat.succ_mul]; omega]
      exact ih (fun p hp => hl p (by simp [hp])) j p (by simpa using hj) i hi
/-- A row of elements that a block holds. -/
theorem C_block {α : Type} (d : Kd α) {w : World} {g : Nat} {t : TypeId} (ps : List (α × List Value)) (hp : ∀ p ∈ ps, p.2.length = d.sz ∧ d.K w p.1 p.2) (h : w.heap[g]? = some (.cells (ps.flatMap (·.2)).toArray t (0, 0))) (hl : ps.length ≤ 1000000) :
    d.C w (some ⟨g, 0, none⟩) (ps.map (·.1)).length (ps.map (·.1)) := by
  refine ⟨rfl, by rw [List.length_map]; omega, fun _ => ⟨_, rfl, fun j p hj => ?_⟩⟩
  rw [List.getElem?_map] at hj
  obtain ⟨q, hq, rfl⟩ := Option.map_eq_some_iff.1 hj
  have hm := hp q (List.mem_of_getElem? hq)
  refine ⟨q.2, hm.1, hm.2, fun i u hi => ?_⟩
  have hil : i < d.sz := by
    rw [← hm.1]
    rcases Nat.lt_or_ge i q.2.length with h | h
    · exact h
    · rw [List.getElem?_eq_none h] at hi; cases hi
  have hf := flat_get d.sz ps (fun p hp' => (hp p hp').1) j q hq i hil
  rw [hi] at hf
  rw [show (⟨g, 0, none⟩ : Addr).add (j * d.sz + i) = ⟨g, j * d.sz + i, none⟩ by first | (rw [add_plain]; done) | (rw [add_plain]; simp)]
  simp only [World.cell?, h]
  simpa using hf
def awWant : List S54 := [⟨4, 0⟩, ⟨1, 3⟩, ⟨16, 0⟩, ⟨31, 7⟩, ⟨2, 0⟩, ⟨32, 0⟩, ⟨30, 8⟩, ⟨1, 0⟩]
def awTree : List S35 := [⟨16, 0, [⟨4, 0, []⟩, ⟨1, 3, []⟩]⟩, ⟨2, 0, []⟩]
theorem aw_compile : code_Compile.f 60 18 0 awTree = some (awWant, 0) := by kernel_rfl
theorem aw_may : hOk awWant = true := by decide +kernel
theorem aw_run4 : runC apC awWant 2 0 4 (awWant.length + 1) 0 0 (List.replicate 65 0) = some 1 := by decide +kernel
theorem aw_run3 : runC apC awWant 2 0 3 (awWant.length + 1) 0 0 (List.replicate 65 0) = some 0 := by decide +kernel
theorem aw_same : headgateref22_Same.f 60 awWant awWant = some true := by decide +kernel
theorem C_aw2 {w : World} {g : Nat} (h : w.heap[g]? = some (.cells #[.int .i64 4, .int .i64 0, .slice none 0 0, .int .i64 1, .int .i64 3, .slice none 0 0] 35 (0, 0))) : Kd.C k35 w (some ⟨g, 0, none⟩) 2 [⟨4, 0, []⟩, ⟨1, 3, []⟩] :=
  C_block k35 [(⟨4, 0, []⟩, [.int .i64 4, .int .i64 0, .slice none 0 0]), (⟨1, 3, []⟩, [.int .i64 1, .int .i64 3, .slice none 0 0])] (fun p hp => by
    have nil : k35.C w none 0 ([] : List S35) := ⟨rfl, by omega, fun h => absurd h (Nat.lt_irrefl 0)⟩
    rcases List.mem_cons.1 hp with rfl | hp
    · exact ⟨rfl, k35_mk w ⟨4, 0, []⟩ (Nat.le_refl _) nil⟩
    · obtain rfl := List.mem_singleton.1 hp
      exact ⟨rfl, k35_mk w ⟨1, 3, []⟩ (Nat.le_refl _) nil⟩) h (by decide)
theorem C_aw1 {w : World} {g g2 : Nat} (h2 : Kd.C k35 w (some ⟨g2, 0, none⟩) 2 [⟨4, 0, []⟩, ⟨1, 3, []⟩]) (h : w.heap[g]? = some (.cells #[.int .i64 16, .int .i64 0, .slice (some ⟨g2, 0, none⟩) 2 2, .int .i64 2, .int .i64 0, .slice none 0 0] 35 (0, 0))) : Kd.C k35 w (some ⟨g, 0, none⟩) awTree.length awTree :=
  C_block k35 [(⟨16, 0, [⟨4, 0, []⟩, ⟨1, 3, []⟩]⟩, [.int .i64 16, .int .i64 0, .slice (some ⟨g2, 0, none⟩) 2 2]), (⟨2, 0, []⟩, [.int .i64 2, .int .i64 0, .slice none 0 0])] (fun p hp => by
    have nil : k35.C w none 0 ([] : List S35) := ⟨rfl, by omega, fun h => absurd h (Nat.lt_irrefl 0)⟩
    rcases List.mem_cons.1 hp with rfl | hp
    · exact ⟨rfl, k35_mk w ⟨16, 0, [⟨4, 0, []⟩, ⟨1, 3, []⟩]⟩ (Nat.le_refl 2) h2⟩
    · obtain rfl := List.mem_singleton.1 hp
      exact ⟨rfl, k35_mk w ⟨2, 0, []⟩ (Nat.le_refl _) nil⟩) h (by simp)
theorem C_want {w : World} {g : Nat} (h : w.heap[g]? = some (.cells #[.int .i64 4, .int .i64 0, .int .i64 1, .int .i64 3, .int .i64 16, .int .i64 0, .int .i64 31, .int .i64 7, .int .i64 2, .int .i64 0, .int .i64 32, .int .i64 0, .int .i64 30, .int .i64 8, .int .i64 1, .int .i64 0] 54 (0, 0))) : Kd.C k54 w (some ⟨g, 0, none⟩) awWant.length awWant :=
  C_block k54 (awWant.map fun x => (x, [.int .i64 x.f0, .int .i64 x.f1])) (fun p hp => by
    obtain ⟨x, _, rfl⟩ := List.mem_map.1 hp
    exact ⟨rfl, k54_mk w x⟩) h (by decide)
set_option maxHeartbeats 8000000 in
set_option maxRecDepth 100000 in
theorem awake_calls (w : World) : Calls Try.prog 13 #[] w fun e w' => e = .returned (.bool true) ∧ Below w.heap.size w w' := by
  have e3 : (((w.alloc (.cells #[.int .i64 4, .int .i64 0, .slice none 0 0] 35)).alloc (.cells #[.int .i64 2, .int .i64 0, .slice none 0 0] 35)).alloc (.cells #[.int .i64 1, .int .i64 3, .slice none 0 0] 35)).heap.size = w.heap.size + 1 + 1 + 1 := by simp [World.size_alloc]
  have hb3 : Below w.heap.size w (((w.alloc (.cells #[.int .i64 4, .int .i64 0, .slice none 0 0] 35)).alloc (.cells #[.int .i64 2, .int .i64 0, .slice none 0 0] 35)).alloc (.cells #[.int .i64 1, .int .i64 3, .slice none 0 0] 35)) := (((Below.refl _ _).alloc (Nat.le_refl _) _).alloc (by simp [World.size_alloc]) _).alloc (by simp [World.size_alloc]; omega) _
  have hA : Kd.C k35 (((((w.alloc (.cells #[.int .i64 4, .int .i64 0, .slice none 0 0] 35)).alloc (.cells #[.int .i64 2, .int .i64 0, .slice none 0 0] 35)).alloc (.cells #[.int .i64 1, .int .i64 3, .slice none 0 0] 35)).alloc (.cells #[.int .i64 4, .int .i64 0, .slice none 0 0, .int .i64 1, .int .i64 3, .slice none 0 0] 35)).alloc (.cells #[.int .i64 16, .int .i64 0, .slice (some ⟨w.heap.size + 1 + 1 + 1, 0, none⟩) 2 2, .int .i64 2, .int .i64 0, .slice none 0 0] 35)) (some ⟨w.heap.size + 1 + 1 + 1 + 1, 0, none⟩) awTree.length awTree := by
    have h4 : ((((w.alloc (.cells #[.int .i64 4, .int .i64 0, .slice none 0 0] 35)).alloc (.cells #[.int .i64 2, .int .i64 0, .slice none 0 0] 35)).alloc (.cells #[.int .i64 1, .int .i64 3, .slice none 0 0] 35)).alloc (.cells #[.int .i64 4, .int .i64 0, .slice none 0 0, .int .i64 1, .int .i64 3, .slice none 0 0] 35)).heap[w.heap.size + 1 + 1 + 1]? = some (.cells #[.int .i64 4, .int .i64 0, .slice none 0 0, .int .i64 1, .int .i64 3, .slice none 0 0] 35) := by rw [← e3]; exact heap_alloc_new _ _
    have e4 : ((((w.alloc (.cells #[.int .i64 4, .int .i64 0, .slice none 0 0] 35)).alloc (.cells #[.int .i64 2, .int .i64 0, .slice none 0 0] 35)).alloc (.cells #[.int .i64 1, .int .i64 3, .slice none 0 0] 35)).alloc (.cells #[.int .i64 4, .int .i64 0, .slice none 0 0, .int .i64 1, .int .i64 3, .slice none 0 0] 35)).heap.size = w.heap.size + 1 + 1 + 1 + 1 := by rw [World.size_alloc, e3]
    have h5 : (((((w.alloc (.cells #[.int .i64 4, .int .i64 0, .slice none 0 0] 35)).alloc (.cells #[.int .i64 2, .int .i64 0, .slice none 0 0] 35)).alloc (.cells #[.int .i64 1, .int .i64 3, .slice none 0 0] 35)).alloc (.cells #[.int .i64 4, .int .i64 0, .slice none 0 0, .int .i64 1, .int .i64 3, .slice none 0 0] 35)).alloc (.cells #[.int .i64 16, .int .i64 0, .slice (some ⟨w.heap.size + 1 + 1 + 1, 0, none⟩) 2 2, .int .i64 2, .int .i64 0, .slice none 0 0] 35)).heap[w.heap.size + 1 + 1 + 1 + 1]? = some (.cells #[.int .i64 16, .int .i64 0, .slice (some ⟨w.heap.size + 1 + 1 + 1, 0, none⟩) 2 2, .int .i64 2, .int .i64 0, .slice none 0 0] 35) := by rw [← e4]; exact heap_alloc_new _ _
    have h45 : (((((w.alloc (.cells #[.int .i64 4, .int .i64 0, .slice none 0 0] 35)).alloc (.cells #[.int .i64 2, .int .i64 0, .slice none 0 0] 35)).alloc (.cells #[.int .i64 1, .int .i64 3, .slice none 0 0] 35)).alloc (.cells #[.int .i64 4, .int .i64 0, .slice none 0 0, .int .i64 1, .int .i64 3, .slice none 0 0] 35)).alloc (.cells #[.int .i64 16, .int .i64 0, .slice (some ⟨w.heap.size + 1 + 1 + 1, 0, none⟩) 2 2, .int .i64 2, .int .i64 0, .slice none 0 0] 35)).heap[w.heap.size + 1 + 1 + 1]? = some (.cells #[.int .i64 4, .int .i64 0, .slice none 0 0, .int .i64 1, .int .i64 3, .slice none 0 0] 35) := (Below.heap_alloc _ _ _ (by omega)).trans h4
    exact C_aw1 (C_aw2 h45) h5
  have hb5 : Below w.heap.size w (((((w.alloc (.cells #[.int .i64 4, .int .i64 0, .slice none 0 0] 35)).alloc (.cells #[.int .i64 2, .int .i64 0, .slice none 0 0] 35)).alloc (.cells #[.int .i64 1, .int .i64 3, .slice none 0 0] 35)).alloc (.cells #[.int .i64 4, .int .i64 0, .slice none 0 0, .int .i64 1, .int .i64 3, .slice none 0 0] 35)).alloc (.cells #[.int .i64 16, .int .i64 0, .slice (some ⟨w.heap.size + 1 + 1 + 1, 0, none⟩) 2 2, .int .i64 2, .int .i64 0, .slice none 0 0] 35)) := (hb3.alloc hb3.size _).alloc (hb3.alloc hb3.size _).size _
  go_enter Try.func13, Try.ntmps13
  go_wp2_with (first | (go_at_call 16; refine (code_Compile.calls 60 18 0 (some ⟨w.heap.size + 1 + 1 + 1 + 1, 0, none⟩) 2 awTree awWant 0 _ hA (Nat.le_refl 2) aw_compile).mono ?_; rintro e w6 ⟨v6, rfl, hR6, hb6⟩; obtain ⟨A6, c6, rfl, hlc6, hC6⟩ := Kd.R_reads hR6; have hb6' : Below w.heap.size w w6 := below_then hb5 hb5.size hb6; have hw7 : Below w6.heap.size w6 (w6.alloc (.cells #[.int .i64 4, .int .i64 0, .int .i64 1, .int .i64 3, .int .i64 16, .int .i64 0, .int .i64 31, .int .i64 7, .int .i64 2, .int .i64 0, .int .i64 32, .int .i64 0, .int .i64 30, .int .i64 8, .int .i64 1, .int .i64 0] 54)) := (Below.refl _ _).alloc (Nat.le_refl _) _; have hC7 := Kd.C_below hC6 hw7; have hD7 : Kd.C k54 (w6.alloc (.cells #[.int .i64 4, .int .i64 0, .int .i64 1, .int .i64 3, .int .i64 16, .int .i64 0, .int .i64 31, .int .i64 7, .int .i64 2, .int .i64 0, .int .i64 32, .int .i64 0, .int .i64 30, .int .i64 8, .int .i64 1, .int .i64 0] 54)) (some ⟨w6.heap.size, 0, none⟩) awWant.length awWant := C_want (heap_alloc_new _ _); have hb7 := below_then hb6' hb6'.size hw7; clear hR6) | (go_at_call 14; (with_reducible refine (run_calls A6 c6 awWant 2 0 4 _ hC7 hlc6 (by decide) 1 aw_may (List.replicate 65 0) zero56 (by simp) aw_run4).mono ?_); rintro e w8 ⟨rfl, hb8⟩; have hC8 := Kd.C_below hC7 hb8; have hD8 := Kd.C_below hD7 hb8; have hb8' := below_then hb7 hb7.size hb8) | (go_at_call 14; (with_reducible refine (run_calls A6 c6 awWant 2 0 3 _ hC8 hlc6 (by decide) 0 aw_may (List.replicate 65 0) zero56 (by simp) aw_run3).mono ?_); rintro e w9 ⟨rfl, hb9⟩; have hC9 := Kd.C_below hC8 hb9; have hD9 := Kd.C_below hD8 hb9; have hb9' := below_then hb8' hb8'.size hb9) | (go_at_call 18; refine (headgateref22_Same.calls 60 A6 c6 awWant (some ⟨w6.heap.size, 0, none⟩) 8 awWant true _ hC9 hlc6 hD9 (Nat.le_refl 8) aw_same).mono ?_; rintro e w10 ⟨rfl, ⟨nd, rfl⟩⟩))
  go_ret
  exact ⟨rfl, pw_below_drewN hb9' _⟩
def headgatelaw22_awake.f : Option Bool := some true
theorem headgatelaw22_awake.calls (r : Bool) (w : World) (h : headgatelaw22_awake.f = some r) :
    Calls Try.prog 13 #[] w fun e w' => e = .returned (.bool r) ∧ Below w.heap.size w w' := by
  obtain rfl := Option.some.inj h
  exact awake_calls w

end Go.Proofs.Ytekbcfgcojecmaa.P
