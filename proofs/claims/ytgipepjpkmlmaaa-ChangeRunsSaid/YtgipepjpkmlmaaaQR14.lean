import Derived.Test.YtgipepjpkmlmaaaQR1
import Derived.Test.YtgipepjpkmlmaaaQR2
import Derived.Test.YtgipepjpkmlmaaaQR3
import Derived.Test.YtgipepjpkmlmaaaQR4
import Derived.Test.YtgipepjpkmlmaaaQR5
import Derived.Test.YtgipepjpkmlmaaaQR6
import Derived.Test.YtgipepjpkmlmaaaQR7
import Derived.Test.YtgipepjpkmlmaaaQR8
import Derived.Test.YtgipepjpkmlmaaaQR9
import Derived.Test.YtgipepjpkmlmaaaQR10
import Derived.Test.YtgipepjpkmlmaaaQR12
namespace Go.Proofs.Ytgipepjpkmlmaaa.P
open Go.RowKit Go.Proofs.YtgipepjpkmlmaaaW.PrintWords Go.Proofs.YtgipepjpkmlmaaaW.PrintLast Go.Proofs.YtgipepjpkmlmaaaW.PrintMore
set_option linter.unusedVariables false
set_option linter.unusedSimpArgs false
abbrev recV (r : S50) : Value := .agg #[.int .i64 r.f0, .int .i64 r.f1, .string r.f2]
/-- The numbers of a record about the counts. -/
def put3 (w : World) (g : Nat) (a0 a1 a2 : Value) : World := ((w.setCell ⟨g, 0, none⟩ a0).setCell ⟨g, 1, none⟩ a1).setCell ⟨g, 2, none⟩ a2
theorem put3_heap {w : World} {g : Nat} {t : TypeId} {b0 b1 b2 : Value} (h : w.heap[g]? = some (.cells #[b0, b1, b2] t (0, 0))) (a0 a1 a2 : Value) : (put3 w g a0 a1 a2).heap[g]? = some (.cells #[a0, a1, a2] t (0, 0)) := by
  unfold put3
  have g1 := blk_put h 0 a0 rfl
  have g2 := blk_put g1 1 a1 rfl
  exact blk_put g2 2 a2 rfl
theorem put3_below {B g : Nat} {w0 w : World} (h : Below B w0 w) (hg : B ≤ g) (a0 a1 a2 : Value) : Below B w0 (put3 w g a0 a1 a2) := by
  unfold put3
  exact ((h.setCell hg _).setCell hg _).setCell hg _
def headL (s : S28) : List Int := [0, s.f0, s.f1, s.f2, s.f3]
def headR (s : S28) : S50 := ⟨0, 0, numsT (headL s)⟩
/-- The numbers of an aggregate. -/
def aggL (a : S44) : List Int := [a.f0, a.f1, a.f2, a.f3, a.f4.f0, a.f4.f1, a.f4.f2, a.f4.f3, a.f5, a.f6]
def encT (a : S44) : ByteArray := if aggOk a = true then numsT (aggL a) else ⟨#[]⟩
theorem headL_len (s : S28) : (headL s).length ≤ 1000000 := by unfold headL; simp
theorem aggL_len (a : S44) : (aggL a).length ≤ 1000000 := by unfold aggL; simp
theorem headL_R {s : S28} (h : stateR s) : ∀ v ∈ headL s, -9223372036854775808 ≤ v ∧ v ≤ 9223372036854775807 := by
  intro v hv
  unfold headL at hv
  simp only [List.mem_cons, List.mem_nil_iff, or_false] at hv
  rcases hv with rfl | rfl | rfl | rfl | rfl
  · omega
  · exact h.r0
  · exact h.r1
  · exact h.r2
  · exact h.r3
theorem aggL_R {a : S44} (h : aggR a) : ∀ v ∈ aggL a, -9223372036854775808 ≤ v ∧ v ≤ 9223372036854775807 := by
  intro v hv
  unfold aggL at hv
  simp only [List.mem_cons, List.mem_nil_iff, or_false] at hv
  rcases hv with rfl | rfl | rfl | rfl | rfl | rfl | rfl | rfl | rfl | rfl
  · exact h.r0
  · exact h.r1
  · exact h.r2
  · exact h.r3
  · exact h.r4
  · exact h.r5
  · exact h.r6
  · exact h.r7
  · exact h.r8
  · exact h.r9
set_option maxHeartbeats 8000000 in
set_option maxRecDepth 100000 in
theorem head_calls (s : S28) (hs : stateR s) (V : Value) (w : World) :
    Calls Try.prog 60 #[.agg #[.int .i64 s.f0, .int .i64 s.f1, .int .i64 s.f2, .int .i64 s.f3, V]] w fun e w' => e = .returned (recV (headR s)) ∧ Below w.heap.size w w' := by
  have hput : ∀ (A : Option Addr) (w : World), (Kd.int .i64).C w A 5 (headL s) → Calls Try.prog 88 #[.slice A 5 5] w fun e w' => e = .returned (.string (numsT (headL s))) ∧ Below w.heap.size w w' := fun A w h => putAll_calls (headL s) (headL_R hs) (show (5:Nat) ≤ 1000 by decide) A 5 w h (Nat.le_refl _)
  obtain ⟨T, hT⟩ : ∃ T, numsT (headL s) = T := ⟨_, rfl⟩
  unfold headR
  rw [hT] at hput ⊢
  have HPUT := Lib.hid hput
  obtain ⟨W2, hW2⟩ : ∃ W, W = (w.alloc (.cells #[.int .i64 s.f0, .int .i64 s.f1, .int .i64 s.f2, .int .i64 s.f3, V] 28)).alloc (.cells #[.int .i64 0, .int .i64 0, .string ⟨#[]⟩] 50) := ⟨_, rfl⟩
  have h0 : W2.heap[w.heap.size]? = some (.cells #[.int .i64 s.f0, .int .i64 s.f1, .int .i64 s.f2, .int .i64 s.f3, V] 28 (0, 0)) := by
    rw [hW2, Below.heap_alloc _ _ _ (by simp)]
    exact heap_alloc_new _ _
  have h1 : W2.heap[w.heap.size + 1]? = some (.cells #[.int .i64 0, .int .i64 0, .string ⟨#[]⟩] 50 (0, 0)) := by
    rw [hW2]
    have := heap_alloc_new (w.alloc (.cells #[.int .i64 s.f0, .int .i64 s.f1, .int .i64 s.f2, .int .i64 s.f3, V] 28)) (.cells #[.int .i64 0, .int .i64 0, .string ⟨#[]⟩] 50)
    simpa using this
  have hb : Below w.heap.size w W2 := by rw [hW2]; exact below_alloc (below_alloc (Below.refl _ _) _) _
  have HB := Lib.hid hb
  have HW2 := Lib.hid hW2
  have H1 := Lib.hid h1
  have z0 : W2.cell? ⟨w.heap.size, 0, none⟩ = some (.int .i64 s.f0) := (blk_cell h0 0).trans rfl
  have z1 : W2.cell? ⟨w.heap.size, 1, none⟩ = some (.int .i64 s.f1) := (blk_cell h0 1).trans rfl
  have z2 : W2.cell? ⟨w.heap.size, 2, none⟩ = some (.int .i64 s.f2) := (blk_cell h0 2).trans rfl
  have z3 : W2.cell? ⟨w.heap.size, 3, none⟩ = some (.int .i64 s.f3) := (blk_cell h0 3).trans rfl
  clear hW2 h0 h1 hb hput hT hs
  go_enter Try.func60, Try.ntmps60
  go_upto_region 1 with fail
  rw [← HW2.out]
  go_wp2_with (first | (go_at_call 88; go_loud ((with_reducible refine (HPUT.out _ _ (ints_C (headL s) (headL_len s) (heap_alloc_new _ _))).mono ?_); rintro e w3 ⟨rfl, hb3⟩; have hb3' : Below W2.heap.size W2 w3 := ((Below.refl _ _).alloc (Nat.le_refl _) _).trans (hb3.mono (by simp)); have q1 := blk_below H1.out hb3'; have y0 : w3.cell? ⟨w.heap.size + 1, 0, none⟩ = some (.int .i64 0) := (blk_cell q1 0).trans rfl; have y1 : w3.cell? ⟨w.heap.size + 1, 1, none⟩ = some (.int .i64 0) := (blk_cell q1 1).trans rfl; have y2 : w3.cell? ⟨w.heap.size + 1, 2, none⟩ = some (.string ⟨#[]⟩) := (blk_cell q1 2).trans rfl; have f0 := blk_frozen q1 0; have f1 := blk_frozen q1 1; have f2 := blk_frozen q1 2; have HQ := Lib.hid q1; have HB3 := Lib.hid hb3'; clear hb3 hb3' q1)))
  refine bodyPost_ret (results_cell_row rfl _ _ (w.heap.size + 1) 50 #[.int .i64 0, .int .i64 0, .string T] (0, 0) _ rfl (put3_heap HQ.out (.int .i64 0) (.int .i64 0) (.string T)) Try.underlying50 rfl (by kernel_rfl)) rfl ?_
  exact ⟨rfl, put3_below (HB.out.trans (HB3.out.mono HB.out.size)) (Nat.le_succ _) (.int .i64 0) (.int .i64 0) (.string T)⟩
set_option maxHeartbeats 8000000 in
set_option maxRecDepth 100000 in
theorem encode_calls (a : S44) (ha : aggR a) (w : World) :
    Calls Try.prog 73 #[aggV a] w fun e w' => e = .returned (.tuple #[.string (encT a), .int .i64 (argE (aggOk a))]) ∧ Below w.heap.size w w' := by
  have hput : ∀ (A : Option Addr) (w : World), (Kd.int .i64).C w A 10 (aggL a) → Calls Try.prog 88 #[.slice A 10 10] w fun e w' => e = .returned (.string (numsT (aggL a))) ∧ Below w.heap.size w w' := fun A w h => putAll_calls (aggL a) (aggL_R ha) (show (10:Nat) ≤ 1000 by decide) A 10 w h (Nat.le_refl _)
  have hchk := fun w => aggCheck_calls a w
  have hu := Try.underlying44
  have hu42 := Try.underlying42
  unfold encT
  obtain ⟨T, hT⟩ : ∃ T, numsT (aggL a) = T := ⟨_, rfl⟩
  rw [hT] at hput ⊢
  obtain ⟨q, hq⟩ : ∃ q, aggOk a = q := ⟨_, rfl⟩
  rw [hq] at hchk ⊢
  clear hq
  have HPUT := Lib.hid hput
  have HCHK := Lib.hid hchk
  obtain ⟨W1, hW1⟩ : ∃ W, W = (w.alloc (.cells #[.int .i64 a.f0, .int .i64 a.f1, .int .i64 a.f2, .int .i64 a.f3, .int .i64 a.f4.f0, .int .i64 a.f4.f1, .int .i64 a.f4.f2, .int .i64 a.f4.f3, .int .i64 a.f5, .int .i64 a.f6] 44)) := ⟨_, rfl⟩
  have h0 : W1.heap[w.heap.size]? = some (.cells #[.int .i64 a.f0, .int .i64 a.f1, .int .i64 a.f2, .int .i64 a.f3, .int .i64 a.f4.f0, .int .i64 a.f4.f1, .int .i64 a.f4.f2, .int .i64 a.f4.f3, .int .i64 a.f5, .int .i64 a.f6] 44 (0, 0)) := by
    rw [hW1]
    exact heap_alloc_new _ _
  have hb : Below w.heap.size w W1 := by rw [hW1]; exact below_alloc (Below.refl _ _) _
  have HB := Lib.hid hb
  have HW1 := Lib.hid hW1
  have H0 := Lib.hid h0
  have z0 : W1.cell? ⟨w.heap.size, 0, none⟩ = some (.int .i64 a.f0) := (blk_cell h0 0).trans rfl
  have z1 : W1.cell? ⟨w.heap.size, 1, none⟩ = some (.int .i64 a.f1) := (blk_cell h0 1).trans rfl
  have z2 : W1.cell? ⟨w.heap.size, 2, none⟩ = some (.int .i64 a.f2) := (blk_cell h0 2).trans rfl
  have z3 : W1.cell? ⟨w.heap.size, 3, none⟩ = some (.int .i64 a.f3) := (blk_cell h0 3).trans rfl
  have z4 : W1.cell? ⟨w.heap.size, 4, none⟩ = some (.int .i64 a.f4.f0) := (blk_cell h0 4).trans rfl
  have z5 : W1.cell? ⟨w.heap.size, 5, none⟩ = some (.int .i64 a.f4.f1) := (blk_cell h0 5).trans rfl
  have z6 : W1.cell? ⟨w.heap.size, 6, none⟩ = some (.int .i64 a.f4.f2) := (blk_cell h0 6).trans rfl
  have z7 : W1.cell? ⟨w.heap.size, 7, none⟩ = some (.int .i64 a.f4.f3) := (blk_cell h0 7).trans rfl
  have z8 : W1.cell? ⟨w.heap.size, 8, none⟩ = some (.int .i64 a.f5) := (blk_cell h0 8).trans rfl
  have z9 : W1.cell? ⟨w.heap.size, 9, none⟩ = some (.int .i64 a.f6) := (blk_cell h0 9).trans rfl
  clear hW1 h0 hb hput hchk hT ha
  go_enter Try.func73, Try.ntmps73
  go_upto_region 1 with fail
  rw [← HW1.out]
  cases q with
  | false =>
    have HCHK' := Lib.hid (show ∀ w, Calls Try.prog 47 #[aggV a] w fun e w' => e = .returned (.int .i64 1) ∧ Below w.heap.size w w' from HCHK.out)
    clear HCHK
    go_wp2_with (first | (go_at_call 47; go_loud ((with_reducible refine (HCHK'.out _).mono ?_); rintro e w3 ⟨rfl, hb3⟩; have HB3 := Lib.hid hb3; clear hb3)))
    go_ret2
    exact ⟨rfl, HB.out.trans (HB3.out.mono HB.out.size)⟩
  | true =>
    have HCHK' := Lib.hid (show ∀ w, Calls Try.prog 47 #[aggV a] w fun e w' => e = .returned (.int .i64 0) ∧ Below w.heap.size w w' from HCHK.out)
    clear HCHK
    go_upto_region 5 with (first | (go_at_call 47; go_loud ((with_reducible refine (HCHK'.out _).mono ?_); rintro e w3 ⟨rfl, hb3⟩; have HB3 := Lib.hid hb3; have hq0 := blk_below H0.out hb3; have z4 : w3.cell? ⟨w.heap.size, 4, none⟩ = some (.int .i64 a.f4.f0) := (blk_cell hq0 4).trans rfl; have z5 : w3.cell? ⟨w.heap.size, 5, none⟩ = some (.int .i64 a.f4.f1) := (blk_cell hq0 5).trans rfl; have z6 : w3.cell? ⟨w.heap.size, 6, none⟩ = some (.int .i64 a.f4.f2) := (blk_cell hq0 6).trans rfl; have z7 : w3.cell? ⟨w.heap.size, 7, none⟩ = some (.int .i64 a.f4.f3) := (blk_cell hq0 7).trans rfl; have HQ0 := Lib.hid hq0; clear hq0 hb3)))
    obtain ⟨W4, hW4⟩ : ∃ W, W = w3.alloc (.cells #[.int .i64 a.f4.f0, .int .i64 a.f4.f1, .int .i64 a.f4.f2, .int .i64 a.f4.f3] 42) := ⟨_, rfl⟩
    have hq4 : W4.heap[w.heap.size]? = some (.cells #[.int .i64 a.f0, .int .i64 a.f1, .int .i64 a.f2, .int .i64 a.f3, .int .i64 a.f4.f0, .int .i64 a.f4.f1, .int .i64 a.f4.f2, .int .i64 a.f4.f3, .int .i64 a.f5, .int .i64 a.f6] 44 (0, 0)) := by rw [hW4]; exact blk_below HQ0.out ((Below.refl _ _).alloc (Nat.le_refl _) _)
    have hh4 : W4.heap[w3.heap.size]? = some (.cells #[.int .i64 a.f4.f0, .int .i64 a.f4.f1, .int .i64 a.f4.f2, .int .i64 a.f4.f3] 42 (0, 0)) := by rw [hW4]; exact heap_alloc_new _ _
    have hb4 : Below w3.heap.size w3 W4 := by rw [hW4]; exact (Below.refl _ _).alloc (Nat.le_refl _) _
    clear z0 z1 z2 z3 z4 z5 z6 z7 z8 z9
    rw [← hW4]
    have z0 : W4.cell? ⟨w.heap.size, 0, none⟩ = some (.int .i64 a.f0) := (blk_cell hq4 0).trans rfl
    have z1 : W4.cell? ⟨w.heap.size, 1, none⟩ = some (.int .i64 a.f1) := (blk_cell hq4 1).trans rfl
    have z2 : W4.cell? ⟨w.heap.size, 2, none⟩ = some (.int .i64 a.f2) := (blk_cell hq4 2).trans rfl
    have z3 : W4.cell? ⟨w.heap.size, 3, none⟩ = some (.int .i64 a.f3) := (blk_cell hq4 3).trans rfl
    have z4 : W4.cell? ⟨w3.heap.size, 0, none⟩ = some (.int .i64 a.f4.f0) := (blk_cell hh4 0).trans rfl
    have z5 : W4.cell? ⟨w3.heap.size, 1, none⟩ = some (.int .i64 a.f4.f1) := (blk_cell hh4 1).trans rfl
    have z6 : W4.cell? ⟨w3.heap.size, 2, none⟩ = some (.int .i64 a.f4.f2) := (blk_cell hh4 2).trans rfl
    have z7 : W4.cell? ⟨w3.heap.size, 3, none⟩ = some (.int .i64 a.f4.f3) := (blk_cell hh4 3).trans rfl
    have z8 : W4.cell? ⟨w.heap.size, 8, none⟩ = some (.int .i64 a.f5) := (blk_cell hq4 8).trans rfl
    have z9 : W4.cell? ⟨w.heap.size, 9, none⟩ = some (.int .i64 a.f6) := (blk_cell hq4 9).trans rfl
    have HB4 := Lib.hid hb4
    clear hW4 hq4 hh4 hb4
    go_wp2_with (first | (go_at_call 88; go_loud ((with_reducible refine (HPUT.out _ _ (ints_C (aggL a) (aggL_len a) (heap_alloc_new _ _))).mono ?_); rintro e w5 ⟨rfl, hb5⟩; have HB5 := Lib.hid hb5; clear hb5)))
    go_ret2
    exact ⟨rfl, HB.out.trans ((HB3.out.trans ((HB4.out.trans ((((Below.refl _ _).alloc (Nat.le_refl _) _).trans (HB5.out.mono (by simp))).mono HB4.out.size)).mono HB3.out.size)).mono HB.out.size)⟩
theorem encT_size (a : S44) (h : aggR a) : (encT a).size ≤ 100 := by
  unfold encT
  split
  · exact numsT_size (aggL a) (aggL_R h)
  · exact Nat.zero_le _
/-- A record about a window that is here, that is gone. -/
def tellH (c : S46) : S50 := ⟨c.f0, c.f1, numT 1 ++ encT c.f2⟩
def tellG (c : S46) : S50 := ⟨c.f0, c.f1, numT 2⟩
set_option maxHeartbeats 8000000 in
set_option maxRecDepth 100000 in
theorem toldH_calls (c : S46) (hc : cellR c) (w : World) :
    Calls Try.prog 62 #[cellV c, .int .i64 1] w fun e w' => e = .returned (recV (tellH c)) ∧ Below w.heap.size w w' := by
  have hput := fun w => put_calls 1 (by decide) (by decide) w
  have henc := fun w => encode_calls c.f2 hc.ag w
  have hsz : (numT 1).size + (encT c.f2).size ≤ 200 := by
    have h1 := numT_size 1 (by decide) (by decide)
    have h2 := encT_size c.f2 hc.ag
    omega
  have hu := Try.underlying44
  unfold tellH
  obtain ⟨T, hT⟩ : ∃ T, numT 1 = T := ⟨_, rfl⟩
  rw [hT] at hput hsz ⊢
  obtain ⟨U, hU⟩ : ∃ U, encT c.f2 = U := ⟨_, rfl⟩
  rw [hU] at henc hsz ⊢
  have HPUT := Lib.hid hput
  have HSZ := Lib.hid hsz
  clear hsz
  have HENC := Lib.hid henc
  obtain ⟨W2, hW2⟩ : ∃ W, W = (w.alloc (.cells #[.int .i64 c.f0, .int .i64 c.f1, .int .i64 c.f2.f0, .int .i64 c.f2.f1, .int .i64 c.f2.f2, .int .i64 c.f2.f3, .int .i64 c.f2.f4.f0, .int .i64 c.f2.f4.f1, .int .i64 c.f2.f4.f2, .int .i64 c.f2.f4.f3, .int .i64 c.f2.f5, .int .i64 c.f2.f6] 46)).alloc (.cells #[.int .i64 0, .int .i64 0, .string ⟨#[]⟩] 50) := ⟨_, rfl⟩
  have h0 : W2.heap[w.heap.size]? = some (.cells #[.int .i64 c.f0, .int .i64 c.f1, .int .i64 c.f2.f0, .int .i64 c.f2.f1, .int .i64 c.f2.f2, .int .i64 c.f2.f3, .int .i64 c.f2.f4.f0, .int .i64 c.f2.f4.f1, .int .i64 c.f2.f4.f2, .int .i64 c.f2.f4.f3, .int .i64 c.f2.f5, .int .i64 c.f2.f6] 46 (0, 0)) := by
    rw [hW2, Below.heap_alloc _ _ _ (by simp)]
    exact heap_alloc_new _ _
  have h1 : W2.heap[w.heap.size + 1]? = some (.cells #[.int .i64 0, .int .i64 0, .string ⟨#[]⟩] 50 (0, 0)) := by
    rw [hW2]
    have := heap_alloc_new (w.alloc (.cells #[.int .i64 c.f0, .int .i64 c.f1, .int .i64 c.f2.f0, .int .i64 c.f2.f1, .int .i64 c.f2.f2, .int .i64 c.f2.f3, .int .i64 c.f2.f4.f0, .int .i64 c.f2.f4.f1, .int .i64 c.f2.f4.f2, .int .i64 c.f2.f4.f3, .int .i64 c.f2.f5, .int .i64 c.f2.f6] 46)) (.cells #[.int .i64 0, .int .i64 0, .string ⟨#[]⟩] 50)
    simpa using this
  have hb : Below w.heap.size w W2 := by rw [hW2]; exact below_alloc (below_alloc (Below.refl _ _) _) _
  have HB := Lib.hid hb
  have HW2 := Lib.hid hW2
  have H0 := Lib.hid h0
  have H1 := Lib.hid h1
  clear hW2 h0 h1 hb hput henc hT hU hc
  go_enter Try.func62, Try.ntmps62
  go_upto_region 1 with fail
  rw [← HW2.out]
  go_wp2_with (first | (go_at_call 89; go_loud ((with_reducible refine (HPUT.out _).mono ?_); rintro e w3 ⟨rfl, hb3⟩; have hq0 := blk_below H0.out hb3; have z2 : w3.cell? ⟨w.heap.size, 2, none⟩ = some (.int .i64 c.f2.f0) := (blk_cell hq0 2).trans rfl; have z3 : w3.cell? ⟨w.heap.size, 3, none⟩ = some (.int .i64 c.f2.f1) := (blk_cell hq0 3).trans rfl; have z4 : w3.cell? ⟨w.heap.size, 4, none⟩ = some (.int .i64 c.f2.f2) := (blk_cell hq0 4).trans rfl; have z5 : w3.cell? ⟨w.heap.size, 5, none⟩ = some (.int .i64 c.f2.f3) := (blk_cell hq0 5).trans rfl; have z6 : w3.cell? ⟨w.heap.size, 6, none⟩ = some (.int .i64 c.f2.f4.f0) := (blk_cell hq0 6).trans rfl; have z7 : w3.cell? ⟨w.heap.size, 7, none⟩ = some (.int .i64 c.f2.f4.f1) := (blk_cell hq0 7).trans rfl; have z8 : w3.cell? ⟨w.heap.size, 8, none⟩ = some (.int .i64 c.f2.f4.f2) := (blk_cell hq0 8).trans rfl; have z9 : w3.cell? ⟨w.heap.size, 9, none⟩ = some (.int .i64 c.f2.f4.f3) := (blk_cell hq0 9).trans rfl; have z10 : w3.cell? ⟨w.heap.size, 10, none⟩ = some (.int .i64 c.f2.f5) := (blk_cell hq0 10).trans rfl; have z11 : w3.cell? ⟨w.heap.size, 11, none⟩ = some (.int .i64 c.f2.f6) := (blk_cell hq0 11).trans rfl; have HQ0 := Lib.hid hq0; have HQ1 := Lib.hid (blk_below H1.out hb3); have HB3 := Lib.hid hb3; clear hq0 hb3)) | (go_at_call 73; go_loud ((with_reducible refine (HENC.out _).mono ?_); rintro e w4 ⟨rfl, hb4⟩; have hq0 := blk_below HQ0.out hb4; have z0 : w4.cell? ⟨w.heap.size, 0, none⟩ = some (.int .i64 c.f0) := (blk_cell hq0 0).trans rfl; have z1 : w4.cell? ⟨w.heap.size, 1, none⟩ = some (.int .i64 c.f1) := (blk_cell hq0 1).trans rfl; have hq1 := blk_below HQ1.out hb4; have y0 : w4.cell? ⟨w.heap.size + 1, 0, none⟩ = some (.int .i64 0) := (blk_cell hq1 0).trans rfl; have y1 : w4.cell? ⟨w.heap.size + 1, 1, none⟩ = some (.int .i64 0) := (blk_cell hq1 1).trans rfl; have y2 : w4.cell? ⟨w.heap.size + 1, 2, none⟩ = some (.string ⟨#[]⟩) := (blk_cell hq1 2).trans rfl; have f0 := blk_frozen hq1 0; have f1 := blk_frozen hq1 1; have f2 := blk_frozen hq1 2; have HQ := Lib.hid hq1; have HB4 := Lib.hid hb4; clear hb4 hq0 hq1)))
  · exact absurd HSZ.out (by omega)
  refine bodyPost_ret (results_cell_row rfl _ _ (w.heap.size + 1) 50 #[.int .i64 c.f0, .int .i64 c.f1, .string (T ++ U)] (0, 0) _ rfl (put3_heap HQ.out (.int .i64 c.f0) (.int .i64 c.f1) (.string (T ++ U))) Try.underlying50 rfl (by kernel_rfl)) rfl ?_
  exact ⟨rfl, put3_below (HB.out.trans ((HB3.out.trans (HB4.out.mono HB3.out.size)).mono HB.out.size)) (Nat.le_succ _) (.int .i64 c.f0) (.int .i64 c.f1) (.string (T ++ U))⟩
set_option maxHeartbeats 8000000 in
set_option maxRecDepth 100000 in
theorem toldG_calls (c : S46) (hc : cellR c) (w : World) :
    Calls Try.prog 62 #[cellV c, .int .i64 2] w fun e w' => e = .returned (recV (tellG c)) ∧ Below w.heap.size w w' := by
  have hput := fun w => put_calls 2 (by decide) (by decide) w
  have henc := fun w => encode_calls c.f2 hc.ag w
  have hu := Try.underlying44
  unfold tellG
  obtain ⟨T, hT⟩ : ∃ T, numT 2 = T := ⟨_, rfl⟩
  rw [hT] at hput ⊢
  obtain ⟨U, hU⟩ : ∃ U, encT c.f2 = U := ⟨_, rfl⟩
  rw [hU] at henc 
  have HPUT := Lib.hid hput
  have HENC := Lib.hid henc
  obtain ⟨W2, hW2⟩ : ∃ W, W = (w.alloc (.cells #[.int .i64 c.f0, .int .i64 c.f1, .int .i64 c.f2.f0, .int .i64 c.f2.f1, .int .i64 c.f2.f2, .int .i64 c.f2.f3, .int .i64 c.f2.f4.f0, .int .i64 c.f2.f4.f1, .int .i64 c.f2.f4.f2, .int .i64 c.f2.f4.f3, .int .i64 c.f2.f5, .int .i64 c.f2.f6] 46)).alloc (.cells #[.int .i64 0, .int .i64 0, .string ⟨#[]⟩] 50) := ⟨_, rfl⟩
  have h0 : W2.heap[w.heap.size]? = some (.cells #[.int .i64 c.f0, .int .i64 c.f1, .int .i64 c.f2.f0, .int .i64 c.f2.f1, .int .i64 c.f2.f2, .int .i64 c.f2.f3, .int .i64 c.f2.f4.f0, .int .i64 c.f2.f4.f1, .int .i64 c.f2.f4.f2, .int .i64 c.f2.f4.f3, .int .i64 c.f2.f5, .int .i64 c.f2.f6] 46 (0, 0)) := by
    rw [hW2, Below.heap_alloc _ _ _ (by simp)]
    exact heap_alloc_new _ _
  have h1 : W2.heap[w.heap.size + 1]? = some (.cells #[.int .i64 0, .int .i64 0, .string ⟨#[]⟩] 50 (0, 0)) := by
    rw [hW2]
    have := heap_alloc_new (w.alloc (.cells #[.int .i64 c.f0, .int .i64 c.f1, .int .i64 c.f2.f0, .int .i64 c.f2.f1, .int .i64 c.f2.f2, .int .i64 c.f2.f3, .int .i64 c.f2.f4.f0, .int .i64 c.f2.f4.f1, .int .i64 c.f2.f4.f2, .int .i64 c.f2.f4.f3, .int .i64 c.f2.f5, .int .i64 c.f2.f6] 46)) (.cells #[.int .i64 0, .int .i64 0, .string ⟨#[]⟩] 50)
    simpa using this
  have hb : Below w.heap.size w W2 := by rw [hW2]; exact below_alloc (below_alloc (Below.refl _ _) _) _
  have HB := Lib.hid hb
  have HW2 := Lib.hid hW2
  have H0 := Lib.hid h0
  have H1 := Lib.hid h1
  clear hW2 h0 h1 hb hput henc hT hU hc
  go_enter Try.func62, Try.ntmps62
  go_upto_region 1 with fail
  rw [← HW2.out]
  go_wp2_with (first | (go_at_call 89; go_loud ((with_reducible refine (HPUT.out _).mono ?_); rintro e w3 ⟨rfl, hb3⟩; have hq0 := blk_below H0.out hb3; have z0 : w3.cell? ⟨w.heap.size, 0, none⟩ = some (.int .i64 c.f0) := (blk_cell hq0 0).trans rfl; have z1 : w3.cell? ⟨w.heap.size, 1, none⟩ = some (.int .i64 c.f1) := (blk_cell hq0 1).trans rfl; have hq1 := blk_below H1.out hb3; have y0 : w3.cell? ⟨w.heap.size + 1, 0, none⟩ = some (.int .i64 0) := (blk_cell hq1 0).trans rfl; have y1 : w3.cell? ⟨w.heap.size + 1, 1, none⟩ = some (.int .i64 0) := (blk_cell hq1 1).trans rfl; have y2 : w3.cell? ⟨w.heap.size + 1, 2, none⟩ = some (.string ⟨#[]⟩) := (blk_cell hq1 2).trans rfl; have f0 := blk_frozen hq1 0; have f1 := blk_frozen hq1 1; have f2 := blk_frozen hq1 2; have HQ := Lib.hid hq1; have HB3 := Lib.hid hb3; clear hb3 hq0 hq1)))
  refine bodyPost_ret (results_cell_row rfl _ _ (w.heap.size + 1) 50 #[.int .i64 c.f0, .int .i64 c.f1, .string T] (0, 0) _ rfl (put3_heap HQ.out (.int .i64 c.f0) (.int .i64 c.f1) (.string T)) Try.underlying50 rfl (by kernel_rfl)) rfl ?_
  exact ⟨rfl, put3_below (HB.out.trans (HB3.out.mono HB.out.size)) (Nat.le_succ _) (.int .i64 c.f0) (.int .i64 c.f1) (.string T)⟩
end Go.Proofs.Ytgipepjpkmlmaaa.P
namespace Go.Proofs.Ytgipepjpkmlmaaa.P
open Go.RowKit Go.Proofs.YtgipepjpkmlmaaaW.PrintWords Go.Proofs.YtgipepjpkmlmaaaW.PrintLast Go.Proofs.YtgipepjpkmlmaaaW.PrintMore
set_option linter.unusedVariables false
set_option linter.unusedSimpArgs false
/-- Are two windows the same? -/
def eqC (x y : S46) : Bool := x.f0 == y.f0 && (x.f1 == y.f1 && ((x.f2.f0 == y.f2.f0 && (x.f2.f1 == y.f2.f1 && (x.f2.f2 == y.f2.f2 && (x.f2.f3 == y.f2.f3 && ((x.f2.f4.f0 == y.f2.f4.f0 && (x.f2.f4.f1 == y.f2.f4.f1 && (x.f2.f4.f2 == y.f2.f4.f2 && (x.f2.f4.f3 == y.f2.f4.f3)))) && (x.f2.f5 == y.f2.f5 && (x.f2.f6 == y.f2.f6)))))))))
theorem eqC_iff (x y : S46) : eqC x y = true ↔ x = y := by
  obtain ⟨a, b, ⟨c, d, e, f, ⟨g, h, i, j⟩, k, l⟩⟩ := x
  obtain ⟨a', b', ⟨c', d', e', f', ⟨g', h', i', j'⟩, k', l'⟩⟩ := y
  unfold eqC
  simp only [Bool.and_eq_true, beq_iff_eq, S46.mk.injEq, S44.mk.injEq, S42.mk.injEq]
/-- What is told between two rows of windows. -/
def walkP : List S46 → List S46 → List S50
  | [], [] => []
  | x :: a, [] => tellG x :: walkP a []
  | [], y :: b => tellH y :: walkP [] b
  | x :: a, y :: b => if aheadB x y = true then tellG x :: walkP a (y :: b) else if aheadB y x = true then tellH y :: walkP (x :: a) b else if eqC x y = true then walkP a b else tellH y :: walkP a b
termination_by a b => a.length + b.length
theorem walk_nn : walkP [] [] = [] := by rw [walkP]
theorem walk_cn (x : S46) (a : List S46) : walkP (x :: a) [] = tellG x :: walkP a [] := by rw [walkP]
theorem walk_nc (y : S46) (b : List S46) : walkP [] (y :: b) = tellH y :: walkP [] b := by rw [walkP]
theorem walk_l {x y : S46} {a b : List S46} (h : aheadB x y = true) : walkP (x :: a) (y :: b) = tellG x :: walkP a (y :: b) := by rw [walkP, if_pos h]
theorem walk_r {x y : S46} {a b : List S46} (h : aheadB x y = false) (h2 : aheadB y x = true) : walkP (x :: a) (y :: b) = tellH y :: walkP (x :: a) b := by rw [walkP, if_neg (by rw [h]; exact Bool.false_ne_true), if_pos h2]
theorem walk_e {x y : S46} {a b : List S46} (h : aheadB x y = false) (h2 : aheadB y x = false) (h3 : eqC x y = true) : walkP (x :: a) (y :: b) = walkP a b := by rw [walkP, if_neg (by rw [h]; exact Bool.false_ne_true), if_neg (by rw [h2]; exact Bool.false_ne_true), if_pos h3]
theorem walk_c {x y : S46} {a b : List S46} (h : aheadB x y = false) (h2 : aheadB y x = false) (h3 : eqC x y = false) : walkP (x :: a) (y :: b) = tellH y :: walkP a b := by rw [walkP, if_neg (by rw [h]; exact Bool.false_ne_true), if_neg (by rw [h2]; exact Bool.false_ne_true), if_neg (by rw [h3]; exact Bool.false_ne_true)]
theorem walk_len (a b : List S46) : (walkP a b).length ≤ a.length + b.length := by
  fun_induction walkP a b <;> simp only [List.length_cons, List.length_nil] at * <;> omega
def sameN (a b : S28) : Bool := a.f0 == b.f0 && (a.f1 == b.f1 && (a.f2 == b.f2 && (a.f3 == b.f3)))
def headP (a b : S28) : List S50 := if sameN a b = true then [] else [headR b]
/-- What is told between two states. -/
def diffP (a b : S28) : List S50 := headP a b ++ walkP a.f4 b.f4
theorem diff_len (a b : S28) : (diffP a b).length ≤ a.f4.length + b.f4.length + 1 := by
  unfold diffP headP
  rw [List.length_append]
  have := walk_len a.f4 b.f4
  split <;> simp <;> omega
theorem C_tail {w : World} {ad : Addr} {n c : Nat} {x : S46} {l : List S46} (h : Kd.C k46 w (some ad) (n + 1) (x :: l)) (hc : n + 1 ≤ c) : Kd.C k46 w (some (ad.add 12)) n l := by
  have hn : n = l.length := by have := h.1; rw [List.length_cons] at this; omega
  subst hn
  by_cases hl : l.length = 0
  · exact ⟨rfl, by omega, fun q => by omega⟩
  have h2 := Kd.C_drop (m := 1) (c := c) h (by rw [List.length_cons]; omega) hc
  rw [if_neg (by omega)] at h2
  exact h2
theorem C_none {w : World} {A : Option Addr} {l : List S46} {n : Nat} (h : n = l.length) (h0 : n = 0) : Kd.C k46 w A n l := by
  subst h
  exact ⟨rfl, by omega, fun q => by omega⟩
theorem R_base50 {w : World} {B b : Nat} {ok : Nat → Prop} {v : Value} {l : List S50} (h : Kd.R k50 50 w B ok v l) (hb : b ≤ B) : Kd.R k50 50 w b (fun _ => True) v l := by
  obtain ⟨_, inner, ho, hr⟩ := h
  refine ⟨fun _ _ => trivial, inner, ⟨ho.1, ?_⟩, hr.imp_ (fun p c hM => by obtain rfl := k50_openM hM; exact k50_mkM _ _ _ _)⟩
  rcases ho.2 with e | ⟨g, cap, cur, e, h1, h3⟩
  · exact .inl e
  · exact .inr ⟨g, cap, cur, e, by omega, h3⟩
end Go.Proofs.Ytgipepjpkmlmaaa.P
namespace Go.Proofs.Ytgipepjpkmlmaaa.P
open Go.RowKit Go.Proofs.YtgipepjpkmlmaaaW.PrintWords Go.Proofs.YtgipepjpkmlmaaaW.PrintLast Go.Proofs.YtgipepjpkmlmaaaW.PrintMore
set_option linter.unusedVariables false
set_option linter.unusedSimpArgs false
theorem results_ct' {P : Program} {fn : Func} {p u : Tmp} {ty : TypeId} (h : fn.results = #[.cell p ty, .tmp u]) (tmps : Array Value) (w : World) (g : Nat) (t : TypeId) (cs : Array Value) (fr : Nat × Nat) (d : TypeDesc)
    (hp : tmps.getD p undef = .pointer (some ⟨g, 0, none⟩)) (hg : w.heap[g]? = some (.cells cs t fr))
    (hu : P.underlying ty = some d) (hd : (match d with | .struct _ | .array _ _ => true | _ => false) = true) (hi : (P.info? ty).map (·.size) = some cs.size) :
    (results fn tmps).run P w = .ok (.tuple #[.agg cs, tmps.getD u undef]) w := by
  have hp' : tmps[p]?.getD undef = .pointer (some ⟨g, 0, none⟩) := by simpa using hp
  simp [results, h, hp', asAddr, run_loadVar_row w g t ty cs fr d hg hu hd hi]
theorem C_nil2 {w : World} {l : List S46} (h : Kd.C k46 w none l.length l) : l = [] := by
  cases l with
  | nil => rfl
  | cons x l =>
    obtain ⟨b, hb, _⟩ := h.2.2 (by rw [List.length_cons]; omega)
    cases hb
set_option maxHeartbeats 4000000 in
set_option maxRecDepth 100000 in
theorem clone2_calls (A : Option Addr) (c : Nat) (l : List S46) (w : World) (hr : Kd.C k46 w A l.length l) (hc : l.length ≤ c) (hl : l.length ≤ 1000000) :
    Calls Try.prog 42 #[.slice A l.length c] w fun e w' => ∃ v, e = .returned v ∧ Kd.R k46 46 w' w.heap.size (fun _ => True) v l ∧ Below w.heap.size w w' := by
  cases A with
  | none =>
    obtain rfl := C_nil2 hr
    have hq : (binOp .eql 26 (.slice none 0 c) (.slice none 0 0)).run Try.prog w = .ok (.bool true) w := eql_nil26 w none 0 c
    go_enter Try.func42, Try.ntmps42
    go_wp2
    go_ret
    exact ⟨_, rfl, Kd.R_nil _ _ _ _ _, Below.refl _ _⟩
  | some a => exact clone_calls (some a) c l w hr hc hl (fun h => by cases h)
set_option maxHeartbeats 8000000 in
set_option maxRecDepth 100000 in
/-- An aggregate's bytes are read as it was. -/
theorem decode_calls (a : S44) (ha : aggR a) (hok : aggOk a = true) (w : World) :
    Calls Try.prog 70 #[.string (numsT (aggL a))] w fun e w' => e = .returned (.tuple #[aggV a, .int .i64 0]) ∧ Below w.heap.size w w' := by
  have htk : ∀ w, Calls Try.prog 69 #[.string (numsT (aggL a)), .int .i64 10] w fun e w' => ∃ v, e = .returned (.tuple #[v, .string ⟨#[]⟩, .int .i64 0]) ∧ Kd.R (Kd.int .i64) 3 w' w.heap.size (fun _ => True) v (aggL a) ∧ Below w.heap.size w w' := by
    intro w
    have h := takeAll_calls (numsT (aggL a)) 10 (by decide) (by have := numsT_size (aggL a) (aggL_R ha); have h2 : (aggL a).length = 10 := rfl; omega) w
    have h2 : takeAllL 10 (numsT (aggL a)) [] = (aggL a, ⟨#[]⟩, 0) := takeAll_nums (aggL a) (aggL_R ha)
    rw [h2] at h
    exact h
  have hchk : ∀ w, Calls Try.prog 47 #[aggV a] w fun e w' => e = .returned (.int .i64 0) ∧ Below w.heap.size w w' := by
    intro w
    have h := aggCheck_calls a w
    rw [hok] at h
    exact h
  obtain ⟨T, hT⟩ : ∃ T, numsT (aggL a) = T := ⟨_, rfl⟩
  rw [hT] at htk ⊢
  have HTK := Lib.hid htk
  have HCHK := Lib.hid hchk
  have hu := Try.underlying44
  have hu42 := Try.underlying42
  obtain ⟨W1, hW1⟩ : ∃ W, W = (w.alloc (.cells #[.int .i64 0, .int .i64 0, .int .i64 0, .int .i64 0, .int .i64 0, .int .i64 0, .int .i64 0, .int .i64 0, .int .i64 0, .int .i64 0] 44)) := ⟨_, rfl⟩
  have h0 : W1.heap[w.heap.size]? = some (.cells #[.int .i64 0, .int .i64 0, .int .i64 0, .int .i64 0, .int .i64 0, .int .i64 0, .int .i64 0, .int .i64 0, .int .i64 0, .int .i64 0] 44 (0, 0)) := by rw [hW1]; exact heap_alloc_new _ _
  have hb : Below w.heap.size w W1 := by rw [hW1]; exact below_alloc (Below.refl _ _) _
  have HB := Lib.hid hb
  have HW1 := Lib.hid hW1
  have H0 := Lib.hid h0
  clear hW1 h0 hb htk hchk hT ha hok
  go_enter Try.func70, Try.ntmps70
  go_upto_region 1 with fail
  rw [← HW1.out]
  go_upto_region 4 with (first | (go_at_call 69; go_loud ((with_reducible refine (HTK.out _).mono ?_); rintro e WX ⟨v, rfl, hR, hb3⟩; obtain ⟨A, c, rfl, hc, hC⟩ := Kd.R_reads hR; have HB3 := Lib.hid hb3; have HCC := Lib.hid hC; have HQ0 := Lib.hid (blk_below H0.out hb3); have hcl : 10 ≤ c := hc; clear hR hb3 hC hc)))
  obtain ⟨ad, had, _⟩ := Kd.at_int HCC.out 0 (by omega) (show (0 : Int) < ((10 : Nat) : Int) by decide)
  cases had
  have hln : (aggL a).length = 10 := rfl
  rw [hln]
  have hc0 : WX.cell? (ad.add 0) = some (.int .i64 a.f0) := by obtain ⟨ad', e', hx⟩ := Kd.at_int HCC.out 0 (by decide) (show (0 : Int) < ((10 : Nat) : Int) by decide); cases e'; exact hx
  rw [Addr.add_zero'] at hc0
  have HC0 := Lib.hid hc0
  clear hc0
  have hc1 : WX.cell? (ad.add 1) = some (.int .i64 a.f1) := by obtain ⟨ad', e', hx⟩ := Kd.at_int HCC.out 1 (by decide) (show (1 : Int) < ((10 : Nat) : Int) by decide); cases e'; exact hx
  rw [show ad.add 1 = ⟨ad.block, ad.off + 1, none⟩ from rfl] at hc1
  have HC1 := Lib.hid hc1
  clear hc1
  have hc2 : WX.cell? (ad.add 2) = some (.int .i64 a.f2) := by obtain ⟨ad', e', hx⟩ := Kd.at_int HCC.out 2 (by decide) (show (2 : Int) < ((10 : Nat) : Int) by decide); cases e'; exact hx
  rw [show ad.add 2 = ⟨ad.block, ad.off + 2, none⟩ from rfl] at hc2
  have HC2 := Lib.hid hc2
  clear hc2
  have hc3 : WX.cell? (ad.add 3) = some (.int .i64 a.f3) := by obtain ⟨ad', e', hx⟩ := Kd.at_int HCC.out 3 (by decide) (show (3 : Int) < ((10 : Nat) : Int) by decide); cases e'; exact hx
  rw [show ad.add 3 = ⟨ad.block, ad.off + 3, none⟩ from rfl] at hc3
  have HC3 := Lib.hid hc3
  clear hc3
  have hc4 : WX.cell? (ad.add 4) = some (.int .i64 a.f4.f0) := by obtain ⟨ad', e', hx⟩ := Kd.at_int HCC.out 4 (by decide) (show (4 : Int) < ((10 : Nat) : Int) by decide); cases e'; exact hx
  rw [show ad.add 4 = ⟨ad.block, ad.off + 4, none⟩ from rfl] at hc4
  have HC4 := Lib.hid hc4
  clear hc4
  have hc5 : WX.cell? (ad.add 5) = some (.int .i64 a.f4.f1) := by obtain ⟨ad', e', hx⟩ := Kd.at_int HCC.out 5 (by decide) (show (5 : Int) < ((10 : Nat) : Int) by decide); cases e'; exact hx
  rw [show ad.add 5 = ⟨ad.block, ad.off + 5, none⟩ from rfl] at hc5
  have HC5 := Lib.hid hc5
  clear hc5
  have hc6 : WX.cell? (ad.add 6) = some (.int .i64 a.f4.f2) := by obtain ⟨ad', e', hx⟩ := Kd.at_int HCC.out 6 (by decide) (show (6 : Int) < ((10 : Nat) : Int) by decide); cases e'; exact hx
  rw [show ad.add 6 = ⟨ad.block, ad.off + 6, none⟩ from rfl] at hc6
  have HC6 := Lib.hid hc6
  clear hc6
  have hc7 : WX.cell? (ad.add 7) = some (.int .i64 a.f4.f3) := by obtain ⟨ad', e', hx⟩ := Kd.at_int HCC.out 7 (by decide) (show (7 : Int) < ((10 : Nat) : Int) by decide); cases e'; exact hx
  rw [show ad.add 7 = ⟨ad.block, ad.off + 7, none⟩ from rfl] at hc7
  have HC7 := Lib.hid hc7
  clear hc7
  have hc8 : WX.cell? (ad.add 8) = some (.int .i64 a.f5) := by obtain ⟨ad', e', hx⟩ := Kd.at_int HCC.out 8 (by decide) (show (8 : Int) < ((10 : Nat) : Int) by decide); cases e'; exact hx
  rw [show ad.add 8 = ⟨ad.block, ad.off + 8, none⟩ from rfl] at hc8
  have HC8 := Lib.hid hc8
  clear hc8
  have hc9 : WX.cell? (ad.add 9) = some (.int .i64 a.f6) := by obtain ⟨ad', e', hx⟩ := Kd.at_int HCC.out 9 (by decide) (show (9 : Int) < ((10 : Nat) : Int) by decide); cases e'; exact hx
  rw [show ad.add 9 = ⟨ad.block, ad.off + 9, none⟩ from rfl] at hc9
  have HC9 := Lib.hid hc9
  clear hc9
  have hb8 : (8 : Int) ≤ (c : Int) := by omega
  have hc4 : ¬ c = 4 := by omega
  have harr : ∀ w_ : World, (Instr.arrayAt 42 (.slice (some ⟨ad.block, ad.off + 4, none⟩) 4 (c - 4))).run Try.prog w_ = .ok (.pointer (some ⟨ad.block, ad.off + 4, none⟩)) w_ := fun w_ => by simp [Instr.arrayAt, run_underlying Try.underlying42]
  refine wp_region_held_drew (S := fun w_ => Below WX.heap.size WX w_) (by kernel_rfl) (below_drew (Below.refl _ _)) (fun hS_ => ?_)
  have hS : Below WX.heap.size WX _ := hS_
  clear hS_
  change wpAnyH _ _ _ _ _ 25 #[false, false, false, false, false, false, false, false, false, false, false, false, false, false, false, false, false, false, false, false, false, false, false, false, false] _ _
  refine takeE 0 (some 21) #[true, false, false, false, false, false, false, false, false, false, false, false, false, false, false, false, false, false, false, false, false, false, false, false, false] hS ?_
  refine takeE 1 (some 22) #[true, true, false, false, false, false, false, false, false, false, false, false, false, false, false, false, false, false, false, false, false, false, false, false, false] hS ?_
  refine takeE 2 (some 23) #[true, true, true, false, false, false, false, false, false, false, false, false, false, false, false, false, false, false, false, false, false, false, false, false, false] hS ?_ (hy := fun w_ hS_ => by (replace hS_ : Below WX.heap.size WX w_ := hS_); have x0_ := below_cell hS_ HC0.out; go_simp <;> with_reducible rfl)
  refine takeE 3 (some 24) #[true, true, true, true, false, false, false, false, false, false, false, false, false, false, false, false, false, false, false, false, false, false, false, false, false] hS ?_
  refine takeE 4 (some 25) #[true, true, true, true, true, false, false, false, false, false, false, false, false, false, false, false, false, false, false, false, false, false, false, false, false] hS ?_
  refine takeE 5 (some 26) #[true, true, true, true, true, true, false, false, false, false, false, false, false, false, false, false, false, false, false, false, false, false, false, false, false] hS ?_ (hy := fun w_ hS_ => by (replace hS_ : Below WX.heap.size WX w_ := hS_); have x1_ := below_cell hS_ HC1.out; go_simp <;> with_reducible rfl)
  refine takeE 6 (some 27) #[true, true, true, true, true, true, true, false, false, false, false, false, false, false, false, false, false, false, false, false, false, false, false, false, false] hS ?_
  refine takeE 7 (some 28) #[true, true, true, true, true, true, true, true, false, false, false, false, false, false, false, false, false, false, false, false, false, false, false, false, false] hS ?_
  refine takeE 8 (some 29) #[true, true, true, true, true, true, true, true, true, false, false, false, false, false, false, false, false, false, false, false, false, false, false, false, false] hS ?_ (hy := fun w_ hS_ => by (replace hS_ : Below WX.heap.size WX w_ := hS_); have x2_ := below_cell hS_ HC2.out; go_simp <;> with_reducible rfl)
  refine takeE 9 (some 30) #[true, true, true, true, true, true, true, true, true, true, false, false, false, false, false, false, false, false, false, false, false, false, false, false, false] hS ?_
  refine takeE 10 (some 31) #[true, true, true, true, true, true, true, true, true, true, true, false, false, false, false, false, false, false, false, false, false, false, false, false, false] hS ?_
  refine takeE 11 (some 32) #[true, true, true, true, true, true, true, true, true, true, true, true, false, false, false, false, false, false, false, false, false, false, false, false, false] hS ?_ (hy := fun w_ hS_ => by (replace hS_ : Below WX.heap.size WX w_ := hS_); have x3_ := below_cell hS_ HC3.out; go_simp <;> with_reducible rfl)
  refine takeE 12 (some 33) #[true, true, true, true, true, true, true, true, true, true, true, true, true, false, false, false, false, false, false, false, false, false, false, false, false] hS ?_
  refine takeE 13 (some 34) #[true, true, true, true, true, true, true, true, true, true, true, true, true, true, false, false, false, false, false, false, false, false, false, false, false] hS ?_
  refine takeE 14 (some 35) #[true, true, true, true, true, true, true, true, true, true, true, true, true, true, true, false, false, false, false, false, false, false, false, false, false] hS ?_ (hy := fun w_ hS_ => by have h_ := harr w_; go_simp <;> with_reducible rfl)
  refine takeE 15 (some 36) #[true, true, true, true, true, true, true, true, true, true, true, true, true, true, true, true, false, false, false, false, false, false, false, false, false] hS ?_ (hy := fun w_ hS_ => by (replace hS_ : Below WX.heap.size WX w_ := hS_); have x4_ := below_cell hS_ HC4.out; have x5_ := below_cell hS_ HC5.out; have x6_ := below_cell hS_ HC6.out; have x7_ := below_cell hS_ HC7.out; go_simp <;> with_reducible rfl)
  refine takeE 16 (some 37) #[true, true, true, true, true, true, true, true, true, true, true, true, true, true, true, true, true, false, false, false, false, false, false, false, false] hS ?_
  refine takeE 17 (some 38) #[true, true, true, true, true, true, true, true, true, true, true, true, true, true, true, true, true, true, false, false, false, false, false, false, false] hS ?_
  refine takeE 18 (some 39) #[true, true, true, true, true, true, true, true, true, true, true, true, true, true, true, true, true, true, true, false, false, false, false, false, false] hS ?_ (hy := fun w_ hS_ => by (replace hS_ : Below WX.heap.size WX w_ := hS_); have x8_ := below_cell hS_ HC8.out; go_simp <;> with_reducible rfl)
  refine takeE 19 (some 40) #[true, true, true, true, true, true, true, true, true, true, true, true, true, true, true, true, true, true, true, true, false, false, false, false, false] hS ?_
  refine takeE 20 (some 41) #[true, true, true, true, true, true, true, true, true, true, true, true, true, true, true, true, true, true, true, true, true, false, false, false, false] hS ?_
  refine takeE 21 (some 42) #[true, true, true, true, true, true, true, true, true, true, true, true, true, true, true, true, true, true, true, true, true, true, false, false, false] hS ?_ (hy := fun w_ hS_ => by (replace hS_ : Below WX.heap.size WX w_ := hS_); have x9_ := below_cell hS_ HC9.out; go_simp <;> with_reducible rfl)
  refine takeE 22 (some 43) #[true, true, true, true, true, true, true, true, true, true, true, true, true, true, true, true, true, true, true, true, true, true, true, false, false] hS ?_
  have hSr := Lib.hid hS
  refine doD (i := 23) (ls2 := #[true, true, true, true, true, true, true, true, true, true, true, true, true, true, true, true, true, true, true, true, true, true, true, true, false]) (by kernel_rfl) rfl (by kernel_rfl) (by kernel_rfl) (fun K hK => ?_)
  go_simp
  refine hK.out _ _ ?_ (fun hS_ => ?_)
  · show Below WX.heap.size WX _
    exact hS.alloc hS.size _
  clear hK K hS
  have hS : Below WX.heap.size WX _ := hS_
  clear hS_
  refine doD (i := 24) (ls2 := #[true, true, true, true, true, true, true, true, true, true, true, true, true, true, true, true, true, true, true, true, true, true, true, true, true]) (by kernel_rfl) rfl (by kernel_rfl) (by kernel_rfl) (fun K hK => ?_)
  go_simp
  refine hK.out _ _ ?_ (fun hS_ => ?_)
  · show Below WX.heap.size WX _
    exact (hSr.out).alloc hSr.out.size _
  clear hK K hS
  have hS : Below WX.heap.size WX _ := hS_
  clear hS_
  refine wpAnyH_done (by kernel_rfl) ?_ _
  try go_simp
  clear hS hSr
  obtain ⟨W4, hW4⟩ : ∃ W, W = (WX.alloc (.cells #[.int .i64 a.f0, .int .i64 a.f1, .int .i64 a.f2, .int .i64 a.f3, .int .i64 a.f4.f0, .int .i64 a.f4.f1, .int .i64 a.f4.f2, .int .i64 a.f4.f3, .int .i64 a.f5, .int .i64 a.f6] 44)).drew := ⟨_, rfl⟩
  have hq4 : W4.heap[WX.heap.size]? = some (.cells #[.int .i64 a.f0, .int .i64 a.f1, .int .i64 a.f2, .int .i64 a.f3, .int .i64 a.f4.f0, .int .i64 a.f4.f1, .int .i64 a.f4.f2, .int .i64 a.f4.f3, .int .i64 a.f5, .int .i64 a.f6] 44 (0, 0)) := by rw [hW4]; exact blk_drew (heap_alloc_new _ _)
  have hz4 : W4.heap[w.heap.size]? = some (.cells #[.int .i64 0, .int .i64 0, .int .i64 0, .int .i64 0, .int .i64 0, .int .i64 0, .int .i64 0, .int .i64 0, .int .i64 0, .int .i64 0] 44 (0, 0)) := by rw [hW4]; exact blk_drew (blk_below (blk_below H0.out HB3.out) ((Below.refl _ _).alloc (Nat.le_refl _) _))
  have hb4 : Below w.heap.size w W4 := by rw [hW4]; exact below_drew ((HB.out.trans (HB3.out.mono HB.out.size)).alloc (HB.out.trans (HB3.out.mono HB.out.size)).size _)
  rw [← hW4]
  have z0 : W4.cell? ⟨WX.heap.size, 0, none⟩ = some (.int .i64 a.f0) := (blk_cell hq4 0).trans rfl
  have z1 : W4.cell? ⟨WX.heap.size, 1, none⟩ = some (.int .i64 a.f1) := (blk_cell hq4 1).trans rfl
  have z2 : W4.cell? ⟨WX.heap.size, 2, none⟩ = some (.int .i64 a.f2) := (blk_cell hq4 2).trans rfl
  have z3 : W4.cell? ⟨WX.heap.size, 3, none⟩ = some (.int .i64 a.f3) := (blk_cell hq4 3).trans rfl
  have z4 : W4.cell? ⟨WX.heap.size, 4, none⟩ = some (.int .i64 a.f4.f0) := (blk_cell hq4 4).trans rfl
  have z5 : W4.cell? ⟨WX.heap.size, 5, none⟩ = some (.int .i64 a.f4.f1) := (blk_cell hq4 5).trans rfl
  have z6 : W4.cell? ⟨WX.heap.size, 6, none⟩ = some (.int .i64 a.f4.f2) := (blk_cell hq4 6).trans rfl
  have z7 : W4.cell? ⟨WX.heap.size, 7, none⟩ = some (.int .i64 a.f4.f3) := (blk_cell hq4 7).trans rfl
  have z8 : W4.cell? ⟨WX.heap.size, 8, none⟩ = some (.int .i64 a.f5) := (blk_cell hq4 8).trans rfl
  have z9 : W4.cell? ⟨WX.heap.size, 9, none⟩ = some (.int .i64 a.f6) := (blk_cell hq4 9).trans rfl
  have HQ4 := Lib.hid hq4
  have HZ4 := Lib.hid hz4
  have HB4 := Lib.hid hb4
  clear hW4 hq4 hz4 hb4 hb8 hc4 harr hcl hln
  go_wp2_with (first | (go_at_call 47; go_loud ((with_reducible refine (HCHK.out _).mono ?_); rintro e w5 ⟨rfl, hb5⟩; have hq5 := blk_below HQ4.out hb5; have hz5 := blk_below HZ4.out hb5; have z0 : w5.cell? ⟨WX.heap.size, 0, none⟩ = some (.int .i64 a.f0) := (blk_cell hq5 0).trans rfl; have y0 : w5.cell? ⟨w.heap.size, 0, none⟩ = some (.int .i64 0) := (blk_cell hz5 0).trans rfl; have f0 := blk_frozen hz5 0; have z1 : w5.cell? ⟨WX.heap.size, 1, none⟩ = some (.int .i64 a.f1) := (blk_cell hq5 1).trans rfl; have y1 : w5.cell? ⟨w.heap.size, 1, none⟩ = some (.int .i64 0) := (blk_cell hz5 1).trans rfl; have f1 := blk_frozen hz5 1; have z2 : w5.cell? ⟨WX.heap.size, 2, none⟩ = some (.int .i64 a.f2) := (blk_cell hq5 2).trans rfl; have y2 : w5.cell? ⟨w.heap.size, 2, none⟩ = some (.int .i64 0) := (blk_cell hz5 2).trans rfl; have f2 := blk_frozen hz5 2; have z3 : w5.cell? ⟨WX.heap.size, 3, none⟩ = some (.int .i64 a.f3) := (blk_cell hq5 3).trans rfl; have y3 : w5.cell? ⟨w.heap.size, 3, none⟩ = some (.int .i64 0) := (blk_cell hz5 3).trans rfl; have f3 := blk_frozen hz5 3; have z4 : w5.cell? ⟨WX.heap.size, 4, none⟩ = some (.int .i64 a.f4.f0) := (blk_cell hq5 4).trans rfl; have y4 : w5.cell? ⟨w.heap.size, 4, none⟩ = some (.int .i64 0) := (blk_cell hz5 4).trans rfl; have f4 := blk_frozen hz5 4; have z5 : w5.cell? ⟨WX.heap.size, 5, none⟩ = some (.int .i64 a.f4.f1) := (blk_cell hq5 5).trans rfl; have y5 : w5.cell? ⟨w.heap.size, 5, none⟩ = some (.int .i64 0) := (blk_cell hz5 5).trans rfl; have f5 := blk_frozen hz5 5; have z6 : w5.cell? ⟨WX.heap.size, 6, none⟩ = some (.int .i64 a.f4.f2) := (blk_cell hq5 6).trans rfl; have y6 : w5.cell? ⟨w.heap.size, 6, none⟩ = some (.int .i64 0) := (blk_cell hz5 6).trans rfl; have f6 := blk_frozen hz5 6; have z7 : w5.cell? ⟨WX.heap.size, 7, none⟩ = some (.int .i64 a.f4.f3) := (blk_cell hq5 7).trans rfl; have y7 : w5.cell? ⟨w.heap.size, 7, none⟩ = some (.int .i64 0) := (blk_cell hz5 7).trans rfl; have f7 := blk_frozen hz5 7; have z8 : w5.cell? ⟨WX.heap.size, 8, none⟩ = some (.int .i64 a.f5) := (blk_cell hq5 8).trans rfl; have y8 : w5.cell? ⟨w.heap.size, 8, none⟩ = some (.int .i64 0) := (blk_cell hz5 8).trans rfl; have f8 := blk_frozen hz5 8; have z9 : w5.cell? ⟨WX.heap.size, 9, none⟩ = some (.int .i64 a.f6) := (blk_cell hq5 9).trans rfl; have y9 : w5.cell? ⟨w.heap.size, 9, none⟩ = some (.int .i64 0) := (blk_cell hz5 9).trans rfl; have f9 := blk_frozen hz5 9; have HZ5 := Lib.hid hz5; have HB5 := Lib.hid (HB4.out.trans (hb5.mono HB4.out.size)); clear hq5 hz5 hb5)))
  refine bodyPost_ret (results_ct' rfl _ _ w.heap.size 44 #[.int .i64 a.f0, .int .i64 a.f1, .int .i64 a.f2, .int .i64 a.f3, .int .i64 a.f4.f0, .int .i64 a.f4.f1, .int .i64 a.f4.f2, .int .i64 a.f4.f3, .int .i64 a.f5, .int .i64 a.f6] (0, 0) _ rfl (put44_heap HZ5.out (.int .i64 a.f0) (.int .i64 a.f1) (.int .i64 a.f2) (.int .i64 a.f3) (.int .i64 a.f4.f0) (.int .i64 a.f4.f1) (.int .i64 a.f4.f2) (.int .i64 a.f4.f3) (.int .i64 a.f5) (.int .i64 a.f6)) Try.underlying44 rfl (by kernel_rfl)) rfl ?_
  exact ⟨rfl, put44_below HB5.out (Nat.le_refl _) (.int .i64 a.f0) (.int .i64 a.f1) (.int .i64 a.f2) (.int .i64 a.f3) (.int .i64 a.f4.f0) (.int .i64 a.f4.f1) (.int .i64 a.f4.f2) (.int .i64 a.f4.f3) (.int .i64 a.f5) (.int .i64 a.f6)⟩
end Go.Proofs.Ytgipepjpkmlmaaa.P
