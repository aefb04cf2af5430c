import Derived.Test.YtgipepjpkmlmaaaQO1
import Derived.Test.YtgipepjpkmlmaaaQO2
import Derived.Test.YtgipepjpkmlmaaaQO3
import Derived.Test.YtgipepjpkmlmaaaQO4
import Derived.Test.YtgipepjpkmlmaaaQO5
import Derived.Test.YtgipepjpkmlmaaaQO6
import Derived.Test.YtgipepjpkmlmaaaQO7
import Derived.Test.YtgipepjpkmlmaaaQO8
import Derived.Test.YtgipepjpkmlmaaaQO9
import Derived.Test.YtgipepjpkmlmaaaQO10
import Derived.Test.YtgipepjpkmlmaaaQO11
import Derived.Test.YtgipepjpkmlmaaaQO12
import Derived.Test.YtgipepjpkmlmaaaQO13
import Derived.Test.YtgipepjpkmlmaaaQO14
import Derived.Test.YtgipepjpkmlmaaaQO15
import Derived.Test.YtgipepjpkmlmaaaQO16
import Derived.Test.YtgipepjpkmlmaaaQO17
import Derived.Test.YtgipepjpkmlmaaaQO18
import Derived.Test.YtgipepjpkmlmaaaQO19
namespace Go.Proofs.Ytgipepjpkmlmaaa.P
open Go.RowKit Go.Proofs.YtgipepjpkmlmaaaW.PrintWords Go.Proofs.YtgipepjpkmlmaaaW.PrintLast Go.Proofs.YtgipepjpkmlmaaaW.PrintMore
set_option linter.unusedVariables false
set_option linter.unusedSimpArgs false
attribute [local go_sem high] eqA46 eqA50
theorem in_out (c : S46) (hc : cellR c) (h : (outP c).2 = 0) : inP (outP c).1 = (c, 0) := by
  unfold outP at h ⊢
  by_cases k : aggOk c.f2 = true ∧ inRng c.f0 c.f1 = true
  · rw [if_pos k]
    obtain ⟨k1, k2⟩ := k
    have e : encT c.f2 = numsT (aggL c.f2) := if_pos k1
    unfold inP
    simp only
    rw [e, dec_nums c.f2 hc.ag k1, if_pos ⟨rfl, k2⟩]
  · rw [if_neg k] at h
    cases h
theorem out_in (r : S50) (h : (inP r).2 = 0) : outP (inP r).1 = (r, 0) := by
  unfold inP at h ⊢
  by_cases k : (decP r.f2).2 = 0 ∧ inRng r.f0 r.f1 = true
  · rw [if_pos k]
    obtain ⟨k1, k2⟩ := k
    obtain ⟨d1, _, d3⟩ := dec_back r.f2 k1
    unfold outP
    simp only
    rw [if_pos ⟨d3, k2⟩]
    unfold encT
    rw [if_pos d3, ← d1]
  · rw [if_neg k] at h
    cases h
theorem out_e (c : S46) : (outP c).2 = 0 ∨ (outP c).2 = 1 := by
  unfold outP
  split
  · exact .inl rfl
  · exact .inr rfl
theorem in_e (r : S50) : (inP r).2 = 0 ∨ (inP r).2 = 2 := by
  unfold inP
  split
  · exact .inl rfl
  · exact .inr rfl
theorem in_R (r : S50) : aggR (inP r).1.f2 := by
  unfold inP
  split
  · exact dec_R r.f2
  · exact z44_R
theorem out_size (c : S46) (hc : aggR c.f2) : (outP c).1.f2.size ≤ 1000000000 := by
  unfold outP
  split
  · have := encT_size c.f2 hc
    show (encT c.f2).size ≤ _
    omega
  · exact Nat.zero_le _
section
open Go.ChangeShapes Go.WideShapes
variable {H : Type} {enc : TypeId × Value → H} {w : World} {base : Nat} {spare : Nat → Bool} {held : Bool}
set_option maxRecDepth 100000 in
theorem open_cell_arg {W : World} {r : Reach} {b2 : Nat} {v : Value} {d : DataW H} {ps : List MemPlace} (hv : Value.okWide Try.prog W r b2 46 v) (h : DataW.Trod enc Try.prog W base spare held 46 v d ps) :
    ∃ c : S46, v = cellV c ∧ cellR c := by
  obtain ⟨cs, rfl, _⟩ := okWide_struct Try.underlying46 hv
  obtain ⟨fuel, hf⟩ := h
  have hf' : DataW.trod enc Try.prog W base spare held fuel 46 cs.toList = some (d, ps) := hf
  obtain ⟨p, hk, hr⟩ := open_cell hf'
  have e := k46_open hk
  refine ⟨p, ?_, hr⟩
  show Value.agg cs = _
  congr 1
  apply Array.toList_inj.1
  exact e
end
set_option maxHeartbeats 16000000 in
set_option maxRecDepth 100000 in
/-- ChangeOuts answers true. -/
theorem changeOuts_walk (c : S46) (r : S50) (w : World) (hc : cellR c) :
    Calls Try.prog 13 #[cellV c, .agg #[.int .i64 r.f0, .int .i64 r.f1, .string r.f2]] w fun e w' => e = .returned (.bool true) ∧ Below w.heap.size w w' := by
  have HAW := Lib.hid awake17_calls
  obtain ⟨W2, hW2⟩ : ∃ W, W = (w.alloc (.cells #[.int .i64 c.f0, .int .i64 c.f1, .int .i64 c.f2.f0, .int .i64 c.f2.f1, .int .i64 c.f2.f2, .int .i64 c.f2.f3, .int .i64 c.f2.f4.f0, .int .i64 c.f2.f4.f1, .int .i64 c.f2.f4.f2, .int .i64 c.f2.f4.f3, .int .i64 c.f2.f5, .int .i64 c.f2.f6] 46)).alloc (.cells #[.int .i64 r.f0, .int .i64 r.f1, .string r.f2] 50) := ⟨_, rfl⟩
  have h0 : W2.heap[w.heap.size]? = some (.cells #[.int .i64 c.f0, .int .i64 c.f1, .int .i64 c.f2.f0, .int .i64 c.f2.f1, .int .i64 c.f2.f2, .int .i64 c.f2.f3, .int .i64 c.f2.f4.f0, .int .i64 c.f2.f4.f1, .int .i64 c.f2.f4.f2, .int .i64 c.f2.f4.f3, .int .i64 c.f2.f5, .int .i64 c.f2.f6] 46 (0, 0)) := by
    rw [hW2, Below.heap_alloc _ _ _ (by simp)]
    exact heap_alloc_new _ _
  have h1 : W2.heap[w.heap.size + 1]? = some (.cells #[.int .i64 r.f0, .int .i64 r.f1, .string r.f2] 50 (0, 0)) := by
    rw [hW2]
    have := heap_alloc_new (w.alloc (.cells #[.int .i64 c.f0, .int .i64 c.f1, .int .i64 c.f2.f0, .int .i64 c.f2.f1, .int .i64 c.f2.f2, .int .i64 c.f2.f3, .int .i64 c.f2.f4.f0, .int .i64 c.f2.f4.f1, .int .i64 c.f2.f4.f2, .int .i64 c.f2.f4.f3, .int .i64 c.f2.f5, .int .i64 c.f2.f6] 46)) (.cells #[.int .i64 r.f0, .int .i64 r.f1, .string r.f2] 50)
    simpa using this
  have hb : Below w.heap.size w W2 := by rw [hW2]; exact below_alloc (below_alloc (Below.refl _ _) _) _
  have HBW := Lib.hid hb
  have HW2 := Lib.hid hW2
  have Hc := Lib.hid h0
  have Hr := Lib.hid h1
  clear hW2 h0 h1 hb
  by_cases hsz : r.f2.size ≤ 1000
  rotate_left
  · have d1 : decide ((1000 : Int) < (r.f2.size : Int)) = true := decide_eq_true (by omega)
    have d2 : 1000 < r.f2.size := by omega
    clear hc
    go_enter Try.func13, Try.ntmps13
    go_upto_region 1 with fail
    rw [← HW2.out]
    have qr_0 : W2.cell? ⟨w.heap.size + 1, 0, none⟩ = some (.int .i64 r.f0) := (blk_cell Hr.out 0).trans rfl
    have qr_1 : W2.cell? ⟨w.heap.size + 1, 1, none⟩ = some (.int .i64 r.f1) := (blk_cell Hr.out 1).trans rfl
    have qr_2 : W2.cell? ⟨w.heap.size + 1, 2, none⟩ = some (.string r.f2) := (blk_cell Hr.out 2).trans rfl
    go_wp2_with (first | (go_at_call 31; go_loud ((with_reducible refine (HAW.out _).mono ?_); rintro e_ wz ⟨rfl, hb_⟩; have HZ := Lib.hid (HBW.out.trans (hb_.mono HBW.out.size)); clear hb_)))
    go_ret
    exact ⟨rfl, HZ.out⟩
  have d1 : decide ((1000 : Int) < (r.f2.size : Int)) = false := decide_eq_false (by omega)
  have d2 : ¬ 1000 < r.f2.size := by omega
  have h38 := fun w => out_calls c hc.ag w
  have h39 := fun w => outR_calls c hc.ag w
  have h40 := fun w => in_calls r (by omega) w
  have h41 := fun w => inRef_calls r (by omega) w
  have hio := in_out c hc
  have hoi := out_in r
  have hoe := out_e c
  have hie := in_e r
  have hsi := out_size c hc.ag
  have hri := in_R r
  obtain ⟨O, hO⟩ : ∃ O, outP c = O := ⟨_, rfl⟩
  obtain ⟨I, hI⟩ : ∃ O, inP r = O := ⟨_, rfl⟩
  rw [hO] at h38 h39 hio hoe hsi
  rw [hI] at h40 h41 hoi hie hri
  obtain ⟨o, oe⟩ := O
  obtain ⟨i, ie⟩ := I
  simp only at h38 h39 h40 h41 hio hoi hoe hie hsi hri
  have HIO := Lib.hid hio
  have HOI := Lib.hid hoi
  have HSI := Lib.hid hsi
  have HRI := Lib.hid hri
  have H38 := Lib.hid h38
  have H39 := Lib.hid h39
  have H40 := Lib.hid h40
  have H41 := Lib.hid h41
  have HOE := Lib.hid hoe
  have HIE := Lib.hid hie
  have bo : (oe != oe) = false := by simp
  have bi : (ie != ie) = false := by simp
  clear h38 h39 h40 h41 hio hoi hoe hie hsi hri hO hI hc
  go_enter Try.func13, Try.ntmps13
  go_upto_region 1 with fail
  rw [← HW2.out]
  have qr_0 : W2.cell? ⟨w.heap.size + 1, 0, none⟩ = some (.int .i64 r.f0) := (blk_cell Hr.out 0).trans rfl
  have qr_1 : W2.cell? ⟨w.heap.size + 1, 1, none⟩ = some (.int .i64 r.f1) := (blk_cell Hr.out 1).trans rfl
  have qr_2 : W2.cell? ⟨w.heap.size + 1, 2, none⟩ = some (.string r.f2) := (blk_cell Hr.out 2).trans rfl
  go_upto_region 3 with fail
  clear qr_0 qr_1 qr_2
  have qc_0 : W2.cell? ⟨w.heap.size, 0, none⟩ = some (.int .i64 c.f0) := (blk_cell Hc.out 0).trans rfl
  have qc_1 : W2.cell? ⟨w.heap.size, 1, none⟩ = some (.int .i64 c.f1) := (blk_cell Hc.out 1).trans rfl
  have qc_2 : W2.cell? ⟨w.heap.size, 2, none⟩ = some (.int .i64 c.f2.f0) := (blk_cell Hc.out 2).trans rfl
  have qc_3 : W2.cell? ⟨w.heap.size, 3, none⟩ = some (.int .i64 c.f2.f1) := (blk_cell Hc.out 3).trans rfl
  have qc_4 : W2.cell? ⟨w.heap.size, 4, none⟩ = some (.int .i64 c.f2.f2) := (blk_cell Hc.out 4).trans rfl
  have qc_5 : W2.cell? ⟨w.heap.size, 5, none⟩ = some (.int .i64 c.f2.f3) := (blk_cell Hc.out 5).trans rfl
  have qc_6 : W2.cell? ⟨w.heap.size, 6, none⟩ = some (.int .i64 c.f2.f4.f0) := (blk_cell Hc.out 6).trans rfl
  have qc_7 : W2.cell? ⟨w.heap.size, 7, none⟩ = some (.int .i64 c.f2.f4.f1) := (blk_cell Hc.out 7).trans rfl
  have qc_8 : W2.cell? ⟨w.heap.size, 8, none⟩ = some (.int .i64 c.f2.f4.f2) := (blk_cell Hc.out 8).trans rfl
  have qc_9 : W2.cell? ⟨w.heap.size, 9, none⟩ = some (.int .i64 c.f2.f4.f3) := (blk_cell Hc.out 9).trans rfl
  have qc_10 : W2.cell? ⟨w.heap.size, 10, none⟩ = some (.int .i64 c.f2.f5) := (blk_cell Hc.out 10).trans rfl
  have qc_11 : W2.cell? ⟨w.heap.size, 11, none⟩ = some (.int .i64 c.f2.f6) := (blk_cell Hc.out 11).trans rfl
  go_upto_region 4 with (first | (go_at_call 38; go_loud ((with_reducible refine (H38.out _).mono ?_); rintro e_ w1_2 ⟨rfl, hb_⟩; have hc_ := blk_below Hc.out hb_; have Nc := Lib.hid hc_; clear hc_; have hr_ := blk_below Hr.out hb_; have Nr := Lib.hid hr_; clear hr_; have NB := Lib.hid (HBW.out.trans (hb_.mono HBW.out.size)); clear hb_)))
  clear qc_0 qc_1 qc_2 qc_3 qc_4 qc_5 qc_6 qc_7 qc_8 qc_9 qc_10 qc_11
  obtain ⟨v1_2, hw_⟩ : ∃ W, W = w1_2.alloc (.cells #[.int .i64 o.f0, .int .i64 o.f1, .string o.f2] 50) := ⟨_, rfl⟩
  rw [← hw_]
  have hb_ : Below w1_2.heap.size w1_2 v1_2 := by rw [hw_]; exact (Below.refl _ _).alloc (Nat.le_refl _) _
  have hg_ : v1_2.heap[w1_2.heap.size]? = some (.cells #[.int .i64 o.f0, .int .i64 o.f1, .string o.f2] 50 (0, 0)) := by rw [hw_]; exact heap_alloc_new _ _
  obtain ⟨gx, hge_⟩ : ∃ g, w1_2.heap.size = g := ⟨_, rfl⟩
  replace Hc := Lib.hid (blk_below Nc.out hb_)
  replace Hr := Lib.hid (blk_below Nr.out hb_)
  replace HBW := Lib.hid (NB.out.trans (hb_.mono NB.out.size))
  rw [hge_] at hg_ ⊢
  have Hx := Lib.hid hg_
  clear hw_ hb_ hg_ hge_ NB Nc Nr
  have qc_0 : v1_2.cell? ⟨w.heap.size, 0, none⟩ = some (.int .i64 c.f0) := (blk_cell Hc.out 0).trans rfl
  have qc_1 : v1_2.cell? ⟨w.heap.size, 1, none⟩ = some (.int .i64 c.f1) := (blk_cell Hc.out 1).trans rfl
  have qc_2 : v1_2.cell? ⟨w.heap.size, 2, none⟩ = some (.int .i64 c.f2.f0) := (blk_cell Hc.out 2).trans rfl
  have qc_3 : v1_2.cell? ⟨w.heap.size, 3, none⟩ = some (.int .i64 c.f2.f1) := (blk_cell Hc.out 3).trans rfl
  have qc_4 : v1_2.cell? ⟨w.heap.size, 4, none⟩ = some (.int .i64 c.f2.f2) := (blk_cell Hc.out 4).trans rfl
  have qc_5 : v1_2.cell? ⟨w.heap.size, 5, none⟩ = some (.int .i64 c.f2.f3) := (blk_cell Hc.out 5).trans rfl
  have qc_6 : v1_2.cell? ⟨w.heap.size, 6, none⟩ = some (.int .i64 c.f2.f4.f0) := (blk_cell Hc.out 6).trans rfl
  have qc_7 : v1_2.cell? ⟨w.heap.size, 7, none⟩ = some (.int .i64 c.f2.f4.f1) := (blk_cell Hc.out 7).trans rfl
  have qc_8 : v1_2.cell? ⟨w.heap.size, 8, none⟩ = some (.int .i64 c.f2.f4.f2) := (blk_cell Hc.out 8).trans rfl
  have qc_9 : v1_2.cell? ⟨w.heap.size, 9, none⟩ = some (.int .i64 c.f2.f4.f3) := (blk_cell Hc.out 9).trans rfl
  have qc_10 : v1_2.cell? ⟨w.heap.size, 10, none⟩ = some (.int .i64 c.f2.f5) := (blk_cell Hc.out 10).trans rfl
  have qc_11 : v1_2.cell? ⟨w.heap.size, 11, none⟩ = some (.int .i64 c.f2.f6) := (blk_cell Hc.out 11).trans rfl
  go_upto_region 5 with (first | (go_at_call 39; go_loud ((with_reducible refine (H39.out _).mono ?_); rintro e_ w2_2 ⟨rfl, hb_⟩; have hc_ := blk_below Hc.out hb_; have Nc := Lib.hid hc_; clear hc_; have hr_ := blk_below Hr.out hb_; have Nr := Lib.hid hr_; clear hr_; have hx_ := blk_below Hx.out hb_; have Nx := Lib.hid hx_; clear hx_; have NB := Lib.hid (HBW.out.trans (hb_.mono HBW.out.size)); clear hb_)))
  clear qc_0 qc_1 qc_2 qc_3 qc_4 qc_5 qc_6 qc_7 qc_8 qc_9 qc_10 qc_11
  obtain ⟨v2_2, hw_⟩ : ∃ W, W = w2_2.alloc (.cells #[.int .i64 o.f0, .int .i64 o.f1, .string o.f2] 50) := ⟨_, rfl⟩
  rw [← hw_]
  have hb_ : Below w2_2.heap.size w2_2 v2_2 := by rw [hw_]; exact (Below.refl _ _).alloc (Nat.le_refl _) _
  have hg_ : v2_2.heap[w2_2.heap.size]? = some (.cells #[.int .i64 o.f0, .int .i64 o.f1, .string o.f2] 50 (0, 0)) := by rw [hw_]; exact heap_alloc_new _ _
  obtain ⟨gy, hge_⟩ : ∃ g, w2_2.heap.size = g := ⟨_, rfl⟩
  replace Hc := Lib.hid (blk_below Nc.out hb_)
  replace Hr := Lib.hid (blk_below Nr.out hb_)
  replace Hx := Lib.hid (blk_below Nx.out hb_)
  replace HBW := Lib.hid (NB.out.trans (hb_.mono NB.out.size))
  rw [hge_] at hg_ ⊢
  have Hy := Lib.hid hg_
  clear hw_ hb_ hg_ hge_ NB Nc Nr Nx
  have qr_0 : v2_2.cell? ⟨w.heap.size + 1, 0, none⟩ = some (.int .i64 r.f0) := (blk_cell Hr.out 0).trans rfl
  have qr_1 : v2_2.cell? ⟨w.heap.size + 1, 1, none⟩ = some (.int .i64 r.f1) := (blk_cell Hr.out 1).trans rfl
  have qr_2 : v2_2.cell? ⟨w.heap.size + 1, 2, none⟩ = some (.string r.f2) := (blk_cell Hr.out 2).trans rfl
  go_upto_region 6 with (first | (go_at_call 40; go_loud ((with_reducible refine (H40.out _).mono ?_); rintro e_ w3_2 ⟨rfl, hb_⟩; have hc_ := blk_below Hc.out hb_; have Nc := Lib.hid hc_; clear hc_; have hr_ := blk_below Hr.out hb_; have Nr := Lib.hid hr_; clear hr_; have hx_ := blk_below Hx.out hb_; have Nx := Lib.hid hx_; clear hx_; have hy_ := blk_below Hy.out hb_; have Ny := Lib.hid hy_; clear hy_; have NB := Lib.hid (HBW.out.trans (hb_.mono HBW.out.size)); clear hb_)))
  clear qr_0 qr_1 qr_2
  obtain ⟨v3_2, hw_⟩ : ∃ W, W = w3_2.alloc (.cells #[.int .i64 i.f0, .int .i64 i.f1, .int .i64 i.f2.f0, .int .i64 i.f2.f1, .int .i64 i.f2.f2, .int .i64 i.f2.f3, .int .i64 i.f2.f4.f0, .int .i64 i.f2.f4.f1, .int .i64 i.f2.f4.f2, .int .i64 i.f2.f4.f3, .int .i64 i.f2.f5, .int .i64 i.f2.f6] 46) := ⟨_, rfl⟩
  rw [← hw_]
  have hb_ : Below w3_2.heap.size w3_2 v3_2 := by rw [hw_]; exact (Below.refl _ _).alloc (Nat.le_refl _) _
  have hg_ : v3_2.heap[w3_2.heap.size]? = some (.cells #[.int .i64 i.f0, .int .i64 i.f1, .int .i64 i.f2.f0, .int .i64 i.f2.f1, .int .i64 i.f2.f2, .int .i64 i.f2.f3, .int .i64 i.f2.f4.f0, .int .i64 i.f2.f4.f1, .int .i64 i.f2.f4.f2, .int .i64 i.f2.f4.f3, .int .i64 i.f2.f5, .int .i64 i.f2.f6] 46 (0, 0)) := by rw [hw_]; exact heap_alloc_new _ _
  obtain ⟨ga, hge_⟩ : ∃ g, w3_2.heap.size = g := ⟨_, rfl⟩
  replace Hc := Lib.hid (blk_below Nc.out hb_)
  replace Hr := Lib.hid (blk_below Nr.out hb_)
  replace Hx := Lib.hid (blk_below Nx.out hb_)
  replace Hy := Lib.hid (blk_below Ny.out hb_)
  replace HBW := Lib.hid (NB.out.trans (hb_.mono NB.out.size))
  rw [hge_] at hg_ ⊢
  have Ha := Lib.hid hg_
  clear hw_ hb_ hg_ hge_ NB Nc Nr Nx Ny
  have qr_0 : v3_2.cell? ⟨w.heap.size + 1, 0, none⟩ = some (.int .i64 r.f0) := (blk_cell Hr.out 0).trans rfl
  have qr_1 : v3_2.cell? ⟨w.heap.size + 1, 1, none⟩ = some (.int .i64 r.f1) := (blk_cell Hr.out 1).trans rfl
  have qr_2 : v3_2.cell? ⟨w.heap.size + 1, 2, none⟩ = some (.string r.f2) := (blk_cell Hr.out 2).trans rfl
  go_upto_region 7 with (first | (go_at_call 41; go_loud ((with_reducible refine (H41.out _).mono ?_); rintro e_ w4_2 ⟨rfl, hb_⟩; have hc_ := blk_below Hc.out hb_; have Nc := Lib.hid hc_; clear hc_; have hr_ := blk_below Hr.out hb_; have Nr := Lib.hid hr_; clear hr_; have hx_ := blk_below Hx.out hb_; have Nx := Lib.hid hx_; clear hx_; have hy_ := blk_below Hy.out hb_; have Ny := Lib.hid hy_; clear hy_; have ha_ := blk_below Ha.out hb_; have Na := Lib.hid ha_; clear ha_; have NB := Lib.hid (HBW.out.trans (hb_.mono HBW.out.size)); clear hb_)))
  clear qr_0 qr_1 qr_2
  obtain ⟨v4_2, hw_⟩ : ∃ W, W = w4_2.alloc (.cells #[.int .i64 i.f0, .int .i64 i.f1, .int .i64 i.f2.f0, .int .i64 i.f2.f1, .int .i64 i.f2.f2, .int .i64 i.f2.f3, .int .i64 i.f2.f4.f0, .int .i64 i.f2.f4.f1, .int .i64 i.f2.f4.f2, .int .i64 i.f2.f4.f3, .int .i64 i.f2.f5, .int .i64 i.f2.f6] 46) := ⟨_, rfl⟩
  rw [← hw_]
  have hb_ : Below w4_2.heap.size w4_2 v4_2 := by rw [hw_]; exact (Below.refl _ _).alloc (Nat.le_refl _) _
  have hg_ : v4_2.heap[w4_2.heap.size]? = some (.cells #[.int .i64 i.f0, .int .i64 i.f1, .int .i64 i.f2.f0, .int .i64 i.f2.f1, .int .i64 i.f2.f2, .int .i64 i.f2.f3, .int .i64 i.f2.f4.f0, .int .i64 i.f2.f4.f1, .int .i64 i.f2.f4.f2, .int .i64 i.f2.f4.f3, .int .i64 i.f2.f5, .int .i64 i.f2.f6] 46 (0, 0)) := by rw [hw_]; exact heap_alloc_new _ _
  obtain ⟨gb, hge_⟩ : ∃ g, w4_2.heap.size = g := ⟨_, rfl⟩
  replace Hc := Lib.hid (blk_below Nc.out hb_)
  replace Hr := Lib.hid (blk_below Nr.out hb_)
  replace Hx := Lib.hid (blk_below Nx.out hb_)
  replace Hy := Lib.hid (blk_below Ny.out hb_)
  replace Ha := Lib.hid (blk_below Na.out hb_)
  replace HBW := Lib.hid (NB.out.trans (hb_.mono NB.out.size))
  rw [hge_] at hg_ ⊢
  have Hb := Lib.hid hg_
  clear hw_ hb_ hg_ hge_ NB Nc Nr Nx Ny Na
  have qx_0 : v4_2.cell? ⟨gx, 0, none⟩ = some (.int .i64 o.f0) := (blk_cell Hx.out 0).trans rfl
  have qx_1 : v4_2.cell? ⟨gx, 1, none⟩ = some (.int .i64 o.f1) := (blk_cell Hx.out 1).trans rfl
  have qx_2 : v4_2.cell? ⟨gx, 2, none⟩ = some (.string o.f2) := (blk_cell Hx.out 2).trans rfl
  have qy_0 : v4_2.cell? ⟨gy, 0, none⟩ = some (.int .i64 o.f0) := (blk_cell Hy.out 0).trans rfl
  have qy_1 : v4_2.cell? ⟨gy, 1, none⟩ = some (.int .i64 o.f1) := (blk_cell Hy.out 1).trans rfl
  have qy_2 : v4_2.cell? ⟨gy, 2, none⟩ = some (.string o.f2) := (blk_cell Hy.out 2).trans rfl
  have qa_0 : v4_2.cell? ⟨ga, 0, none⟩ = some (.int .i64 i.f0) := (blk_cell Ha.out 0).trans rfl
  have qa_1 : v4_2.cell? ⟨ga, 1, none⟩ = some (.int .i64 i.f1) := (blk_cell Ha.out 1).trans rfl
  have qa_2 : v4_2.cell? ⟨ga, 2, none⟩ = some (.int .i64 i.f2.f0) := (blk_cell Ha.out 2).trans rfl
  have qa_3 : v4_2.cell? ⟨ga, 3, none⟩ = some (.int .i64 i.f2.f1) := (blk_cell Ha.out 3).trans rfl
  have qa_4 : v4_2.cell? ⟨ga, 4, none⟩ = some (.int .i64 i.f2.f2) := (blk_cell Ha.out 4).trans rfl
  have qa_5 : v4_2.cell? ⟨ga, 5, none⟩ = some (.int .i64 i.f2.f3) := (blk_cell Ha.out 5).trans rfl
  have qa_6 : v4_2.cell? ⟨ga, 6, none⟩ = some (.int .i64 i.f2.f4.f0) := (blk_cell Ha.out 6).trans rfl
  have qa_7 : v4_2.cell? ⟨ga, 7, none⟩ = some (.int .i64 i.f2.f4.f1) := (blk_cell Ha.out 7).trans rfl
  have qa_8 : v4_2.cell? ⟨ga, 8, none⟩ = some (.int .i64 i.f2.f4.f2) := (blk_cell Ha.out 8).trans rfl
  have qa_9 : v4_2.cell? ⟨ga, 9, none⟩ = some (.int .i64 i.f2.f4.f3) := (blk_cell Ha.out 9).trans rfl
  have qa_10 : v4_2.cell? ⟨ga, 10, none⟩ = some (.int .i64 i.f2.f5) := (blk_cell Ha.out 10).trans rfl
  have qa_11 : v4_2.cell? ⟨ga, 11, none⟩ = some (.int .i64 i.f2.f6) := (blk_cell Ha.out 11).trans rfl
  have qb_0 : v4_2.cell? ⟨gb, 0, none⟩ = some (.int .i64 i.f0) := (blk_cell Hb.out 0).trans rfl
  have qb_1 : v4_2.cell? ⟨gb, 1, none⟩ = some (.int .i64 i.f1) := (blk_cell Hb.out 1).trans rfl
  have qb_2 : v4_2.cell? ⟨gb, 2, none⟩ = some (.int .i64 i.f2.f0) := (blk_cell Hb.out 2).trans rfl
  have qb_3 : v4_2.cell? ⟨gb, 3, none⟩ = some (.int .i64 i.f2.f1) := (blk_cell Hb.out 3).trans rfl
  have qb_4 : v4_2.cell? ⟨gb, 4, none⟩ = some (.int .i64 i.f2.f2) := (blk_cell Hb.out 4).trans rfl
  have qb_5 : v4_2.cell? ⟨gb, 5, none⟩ = some (.int .i64 i.f2.f3) := (blk_cell Hb.out 5).trans rfl
  have qb_6 : v4_2.cell? ⟨gb, 6, none⟩ = some (.int .i64 i.f2.f4.f0) := (blk_cell Hb.out 6).trans rfl
  have qb_7 : v4_2.cell? ⟨gb, 7, none⟩ = some (.int .i64 i.f2.f4.f1) := (blk_cell Hb.out 7).trans rfl
  have qb_8 : v4_2.cell? ⟨gb, 8, none⟩ = some (.int .i64 i.f2.f4.f2) := (blk_cell Hb.out 8).trans rfl
  have qb_9 : v4_2.cell? ⟨gb, 9, none⟩ = some (.int .i64 i.f2.f4.f3) := (blk_cell Hb.out 9).trans rfl
  have qb_10 : v4_2.cell? ⟨gb, 10, none⟩ = some (.int .i64 i.f2.f5) := (blk_cell Hb.out 10).trans rfl
  have qb_11 : v4_2.cell? ⟨gb, 11, none⟩ = some (.int .i64 i.f2.f6) := (blk_cell Hb.out 11).trans rfl
  have heo := fun (d : Nat) (w : World) => (show (Op.equalIn (d + 2) 50 (.agg #[.int .i64 o.f0, .int .i64 o.f1, .string o.f2]) (.agg #[.int .i64 o.f0, .int .i64 o.f1, .string o.f2])).run Try.prog w = .ok true w by rw [eqA50]; simp)
  have hei := fun (d : Nat) (w : World) => (show (Op.equalIn (d + 4) 46 (cellV i) (cellV i)).run Try.prog w = .ok true w by unfold cellV; rw [eqA46]; simp)
  go_upto_region 9 with fail
  clear qx_0 qx_1 qx_2 qy_0 qy_1 qy_2 qa_0 qa_1 qa_2 qa_3 qa_4 qa_5 qa_6 qa_7 qa_8 qa_9 qa_10 qa_11 qb_0 qb_1 qb_2 qb_3 qb_4 qb_5 qb_6 qb_7 qb_8 qb_9 qb_10 qb_11
  clear heo hei bo bi
  go_upto_if 61 with fail
  go_cut [13, 14] from 60 to 73 (fun v13 v14 wc => Below v4_2.heap.size v4_2 wc)
  case first =>
    rcases HOE.out with he | he
    rotate_left
    · subst he
      go_wp2
      go_meet
      case rel => exact Below.refl _ _
    · subst he
      have hino := fun w => in_calls o HSI.out w
      rw [HIO.out rfl] at hino
      simp only at hino
      have HINO := Lib.hid hino
      clear hino
      go_upto_region 10 with fail
      have HKEEP := HBW
      have HBL := Lib.hid (Below.refl v4_2.heap.size v4_2)
      replace HBW := HBL
      have qx_0 : v4_2.cell? ⟨gx, 0, none⟩ = some (.int .i64 o.f0) := (blk_cell Hx.out 0).trans rfl
      have qx_1 : v4_2.cell? ⟨gx, 1, none⟩ = some (.int .i64 o.f1) := (blk_cell Hx.out 1).trans rfl
      have qx_2 : v4_2.cell? ⟨gx, 2, none⟩ = some (.string o.f2) := (blk_cell Hx.out 2).trans rfl
      go_upto_region 11 with (first | (go_at_call 40; go_loud ((with_reducible refine (HINO.out _).mono ?_); rintro e_ w5_6 ⟨rfl, hb_⟩; have hc_ := blk_below Hc.out hb_; have Nc := Lib.hid hc_; clear hc_; have hr_ := blk_below Hr.out hb_; have Nr := Lib.hid hr_; clear hr_; have hx_ := blk_below Hx.out hb_; have Nx := Lib.hid hx_; clear hx_; have hy_ := blk_below Hy.out hb_; have Ny := Lib.hid hy_; clear hy_; have ha_ := blk_below Ha.out hb_; have Na := Lib.hid ha_; clear ha_; have hb_ := blk_below Hb.out hb_; have Nb := Lib.hid hb_; clear hb_; have NB := Lib.hid (HBW.out.trans (hb_.mono HBW.out.size)); clear hb_)))
      clear qx_0 qx_1 qx_2
      obtain ⟨v5_6, hw_⟩ : ∃ W, W = w5_6.alloc (.cells #[.int .i64 c.f0, .int .i64 c.f1, .int .i64 c.f2.f0, .int .i64 c.f2.f1, .int .i64 c.f2.f2, .int .i64 c.f2.f3, .int .i64 c.f2.f4.f0, .int .i64 c.f2.f4.f1, .int .i64 c.f2.f4.f2, .int .i64 c.f2.f4.f3, .int .i64 c.f2.f5, .int .i64 c.f2.f6] 46) := ⟨_, rfl⟩
      rw [← hw_]
      have hb_ : Below w5_6.heap.size w5_6 v5_6 := by rw [hw_]; exact (Below.refl _ _).alloc (Nat.le_refl _) _
      have hg_ : v5_6.heap[w5_6.heap.size]? = some (.cells #[.int .i64 c.f0, .int .i64 c.f1, .int .i64 c.f2.f0, .int .i64 c.f2.f1, .int .i64 c.f2.f2, .int .i64 c.f2.f3, .int .i64 c.f2.f4.f0, .int .i64 c.f2.f4.f1, .int .i64 c.f2.f4.f2, .int .i64 c.f2.f4.f3, .int .i64 c.f2.f5, .int .i64 c.f2.f6] 46 (0, 0)) := by rw [hw_]; exact heap_alloc_new _ _
      obtain ⟨gd, hge_⟩ : ∃ g, w5_6.heap.size = g := ⟨_, rfl⟩
      replace Hc := Lib.hid (blk_below Nc.out hb_)
      replace Hr := Lib.hid (blk_below Nr.out hb_)
      replace Hx := Lib.hid (blk_below Nx.out hb_)
      replace Hy := Lib.hid (blk_below Ny.out hb_)
      replace Ha := Lib.hid (blk_below Na.out hb_)
      replace Hb := Lib.hid (blk_below Nb.out hb_)
      replace HBW := Lib.hid (NB.out.trans (hb_.mono NB.out.size))
      rw [hge_] at hg_ ⊢
      have Hd := Lib.hid hg_
      clear hw_ hb_ hg_ hge_ NB Nc Nr Nx Ny Na Nb
      have qd_0 : v5_6.cell? ⟨gd, 0, none⟩ = some (.int .i64 c.f0) := (blk_cell Hd.out 0).trans rfl
      have qd_1 : v5_6.cell? ⟨gd, 1, none⟩ = some (.int .i64 c.f1) := (blk_cell Hd.out 1).trans rfl
      have qd_2 : v5_6.cell? ⟨gd, 2, none⟩ = some (.int .i64 c.f2.f0) := (blk_cell Hd.out 2).trans rfl
      have qd_3 : v5_6.cell? ⟨gd, 3, none⟩ = some (.int .i64 c.f2.f1) := (blk_cell Hd.out 3).trans rfl
      have qd_4 : v5_6.cell? ⟨gd, 4, none⟩ = some (.int .i64 c.f2.f2) := (blk_cell Hd.out 4).trans rfl
      have qd_5 : v5_6.cell? ⟨gd, 5, none⟩ = some (.int .i64 c.f2.f3) := (blk_cell Hd.out 5).trans rfl
      have qd_6 : v5_6.cell? ⟨gd, 6, none⟩ = some (.int .i64 c.f2.f4.f0) := (blk_cell Hd.out 6).trans rfl
      have qd_7 : v5_6.cell? ⟨gd, 7, none⟩ = some (.int .i64 c.f2.f4.f1) := (blk_cell Hd.out 7).trans rfl
      have qd_8 : v5_6.cell? ⟨gd, 8, none⟩ = some (.int .i64 c.f2.f4.f2) := (blk_cell Hd.out 8).trans rfl
      have qd_9 : v5_6.cell? ⟨gd, 9, none⟩ = some (.int .i64 c.f2.f4.f3) := (blk_cell Hd.out 9).trans rfl
      have qd_10 : v5_6.cell? ⟨gd, 10, none⟩ = some (.int .i64 c.f2.f5) := (blk_cell Hd.out 10).trans rfl
      have qd_11 : v5_6.cell? ⟨gd, 11, none⟩ = some (.int .i64 c.f2.f6) := (blk_cell Hd.out 11).trans rfl
      have qc_0 : v5_6.cell? ⟨w.heap.size, 0, none⟩ = some (.int .i64 c.f0) := (blk_cell Hc.out 0).trans rfl
      have qc_1 : v5_6.cell? ⟨w.heap.size, 1, none⟩ = some (.int .i64 c.f1) := (blk_cell Hc.out 1).trans rfl
      have qc_2 : v5_6.cell? ⟨w.heap.size, 2, none⟩ = some (.int .i64 c.f2.f0) := (blk_cell Hc.out 2).trans rfl
      have qc_3 : v5_6.cell? ⟨w.heap.size, 3, none⟩ = some (.int .i64 c.f2.f1) := (blk_cell Hc.out 3).trans rfl
      have qc_4 : v5_6.cell? ⟨w.heap.size, 4, none⟩ = some (.int .i64 c.f2.f2) := (blk_cell Hc.out 4).trans rfl
      have qc_5 : v5_6.cell? ⟨w.heap.size, 5, none⟩ = some (.int .i64 c.f2.f3) := (blk_cell Hc.out 5).trans rfl
      have qc_6 : v5_6.cell? ⟨w.heap.size, 6, none⟩ = some (.int .i64 c.f2.f4.f0) := (blk_cell Hc.out 6).trans rfl
      have qc_7 : v5_6.cell? ⟨w.heap.size, 7, none⟩ = some (.int .i64 c.f2.f4.f1) := (blk_cell Hc.out 7).trans rfl
      have qc_8 : v5_6.cell? ⟨w.heap.size, 8, none⟩ = some (.int .i64 c.f2.f4.f2) := (blk_cell Hc.out 8).trans rfl
      have qc_9 : v5_6.cell? ⟨w.heap.size, 9, none⟩ = some (.int .i64 c.f2.f4.f3) := (blk_cell Hc.out 9).trans rfl
      have qc_10 : v5_6.cell? ⟨w.heap.size, 10, none⟩ = some (.int .i64 c.f2.f5) := (blk_cell Hc.out 10).trans rfl
      have qc_11 : v5_6.cell? ⟨w.heap.size, 11, none⟩ = some (.int .i64 c.f2.f6) := (blk_cell Hc.out 11).trans rfl
      have hec := fun (d : Nat) (w : World) => (show (Op.equalIn (d + 4) 46 (cellV c) (cellV c)).run Try.prog w = .ok true w by unfold cellV; rw [eqA46]; simp)
      go_wp2
      go_meet
      case rel => exact HBW.out
  case rest =>
    obtain ⟨wd, hwd_⟩ : ∃ W, W = wc := ⟨_, rfl⟩
    subst hwd_
    replace Hc := Lib.hid (blk_below Hc.out hcut)
    replace Hr := Lib.hid (blk_below Hr.out hcut)
    replace Hx := Lib.hid (blk_below Hx.out hcut)
    replace Hy := Lib.hid (blk_below Hy.out hcut)
    replace Ha := Lib.hid (blk_below Ha.out hcut)
    replace Hb := Lib.hid (blk_below Hb.out hcut)
    replace HBW := Lib.hid (HBW.out.trans (hcut.mono HBW.out.size))
    clear hcut
    rcases HIE.out with he | he
    rotate_left
    · subst he
      go_wp2_with (first | (go_at_call 31; go_loud ((with_reducible refine (HAW.out _).mono ?_); rintro e_ wz ⟨rfl, hb_⟩; have HZ := Lib.hid (HBW.out.trans (hb_.mono HBW.out.size)); clear hb_)))
      go_ret
      exact ⟨rfl, HZ.out⟩
    subst he
    have houti := fun w => out_calls i HRI.out w
    rw [HOI.out rfl] at houti
    simp only at houti
    have HOUTI := Lib.hid houti
    clear houti
    go_upto_region 15 with fail
    have qa_0 : wd.cell? ⟨ga, 0, none⟩ = some (.int .i64 i.f0) := (blk_cell Ha.out 0).trans rfl
    have qa_1 : wd.cell? ⟨ga, 1, none⟩ = some (.int .i64 i.f1) := (blk_cell Ha.out 1).trans rfl
    have qa_2 : wd.cell? ⟨ga, 2, none⟩ = some (.int .i64 i.f2.f0) := (blk_cell Ha.out 2).trans rfl
    have qa_3 : wd.cell? ⟨ga, 3, none⟩ = some (.int .i64 i.f2.f1) := (blk_cell Ha.out 3).trans rfl
    have qa_4 : wd.cell? ⟨ga, 4, none⟩ = some (.int .i64 i.f2.f2) := (blk_cell Ha.out 4).trans rfl
    have qa_5 : wd.cell? ⟨ga, 5, none⟩ = some (.int .i64 i.f2.f3) := (blk_cell Ha.out 5).trans rfl
    have qa_6 : wd.cell? ⟨ga, 6, none⟩ = some (.int .i64 i.f2.f4.f0) := (blk_cell Ha.out 6).trans rfl
    have qa_7 : wd.cell? ⟨ga, 7, none⟩ = some (.int .i64 i.f2.f4.f1) := (blk_cell Ha.out 7).trans rfl
    have qa_8 : wd.cell? ⟨ga, 8, none⟩ = some (.int .i64 i.f2.f4.f2) := (blk_cell Ha.out 8).trans rfl
    have qa_9 : wd.cell? ⟨ga, 9, none⟩ = some (.int .i64 i.f2.f4.f3) := (blk_cell Ha.out 9).trans rfl
    have qa_10 : wd.cell? ⟨ga, 10, none⟩ = some (.int .i64 i.f2.f5) := (blk_cell Ha.out 10).trans rfl
    have qa_11 : wd.cell? ⟨ga, 11, none⟩ = some (.int .i64 i.f2.f6) := (blk_cell Ha.out 11).trans rfl
    go_upto_region 16 with (first | (go_at_call 38; go_loud ((with_reducible refine (HOUTI.out _).mono ?_); rintro e_ w5_4 ⟨rfl, hb_⟩; have hc_ := blk_below Hc.out hb_; have Nc := Lib.hid hc_; clear hc_; have hr_ := blk_below Hr.out hb_; have Nr := Lib.hid hr_; clear hr_; have hx_ := blk_below Hx.out hb_; have Nx := Lib.hid hx_; clear hx_; have hy_ := blk_below Hy.out hb_; have Ny := Lib.hid hy_; clear hy_; have ha_ := blk_below Ha.out hb_; have Na := Lib.hid ha_; clear ha_; have hb_ := blk_below Hb.out hb_; have Nb := Lib.hid hb_; clear hb_; have NB := Lib.hid (HBW.out.trans (hb_.mono HBW.out.size)); clear hb_)))
    clear qa_0 qa_1 qa_2 qa_3 qa_4 qa_5 qa_6 qa_7 qa_8 qa_9 qa_10 qa_11
    obtain ⟨v5_4, hw_⟩ : ∃ W, W = w5_4.alloc (.cells #[.int .i64 r.f0, .int .i64 r.f1, .string r.f2] 50) := ⟨_, rfl⟩
    rw [← hw_]
    have hb_ : Below w5_4.heap.size w5_4 v5_4 := by rw [hw_]; exact (Below.refl _ _).alloc (Nat.le_refl _) _
    have hg_ : v5_4.heap[w5_4.heap.size]? = some (.cells #[.int .i64 r.f0, .int .i64 r.f1, .string r.f2] 50 (0, 0)) := by rw [hw_]; exact heap_alloc_new _ _
    obtain ⟨gz, hge_⟩ : ∃ g, w5_4.heap.size = g := ⟨_, rfl⟩
    replace Hc := Lib.hid (blk_below Nc.out hb_)
    replace Hr := Lib.hid (blk_below Nr.out hb_)
    replace Hx := Lib.hid (blk_below Nx.out hb_)
    replace Hy := Lib.hid (blk_below Ny.out hb_)
    replace Ha := Lib.hid (blk_below Na.out hb_)
    replace Hb := Lib.hid (blk_below Nb.out hb_)
    replace HBW := Lib.hid (NB.out.trans (hb_.mono NB.out.size))
    rw [hge_] at hg_ ⊢
    have Hz := Lib.hid hg_
    clear hw_ hb_ hg_ hge_ NB Nc Nr Nx Ny Na Nb
    have qz_0 : v5_4.cell? ⟨gz, 0, none⟩ = some (.int .i64 r.f0) := (blk_cell Hz.out 0).trans rfl
    have qz_1 : v5_4.cell? ⟨gz, 1, none⟩ = some (.int .i64 r.f1) := (blk_cell Hz.out 1).trans rfl
    have qz_2 : v5_4.cell? ⟨gz, 2, none⟩ = some (.string r.f2) := (blk_cell Hz.out 2).trans rfl
    have qr_0 : v5_4.cell? ⟨w.heap.size + 1, 0, none⟩ = some (.int .i64 r.f0) := (blk_cell Hr.out 0).trans rfl
    have qr_1 : v5_4.cell? ⟨w.heap.size + 1, 1, none⟩ = some (.int .i64 r.f1) := (blk_cell Hr.out 1).trans rfl
    have qr_2 : v5_4.cell? ⟨w.heap.size + 1, 2, none⟩ = some (.string r.f2) := (blk_cell Hr.out 2).trans rfl
    have her := fun (d : Nat) (w : World) => (show (Op.equalIn (d + 2) 50 (.agg #[.int .i64 r.f0, .int .i64 r.f1, .string r.f2]) (.agg #[.int .i64 r.f0, .int .i64 r.f1, .string r.f2])).run Try.prog w = .ok true w by rw [eqA50]; simp)
    go_wp2_with (first | (go_at_call 31; go_loud ((with_reducible refine (HAW.out _).mono ?_); rintro e_ wz ⟨rfl, hb_⟩; have HZ := Lib.hid (HBW.out.trans (hb_.mono HBW.out.size)); clear hb_)))
    go_ret
    exact ⟨rfl, HZ.out⟩
end Go.Proofs.Ytgipepjpkmlmaaa.P
