import Derived.Test.YtgipepjpkmlmaaaE3
namespace Go.Proofs.Ytgipepjpkmlmaaa.P
open Go.RowKit Go.Proofs.YtgipepjpkmlmaaaW.PrintWords Go.Proofs.YtgipepjpkmlmaaaW.PrintLast Go.Proofs.YtgipepjpkmlmaaaW.PrintMore
set_option linter.unusedVariables false
set_option linter.unusedSimpArgs false

/-- Records, one behind the other. -/
def runL (g : S23) : List S50 → S28 → List S46 → S28 × List S46 × Int
  | [], s, all => (s, all, 0)
  | r :: rs, s, all => if (feedP g s r).2.2 = 0 then runL g rs (feedP g s r).1 (all ++ (feedP g s r).2.1) else (z28, [], (feedP g s r).2.2)
def runP (g : S23) (s : S28) (l : List S50) : S28 × List S46 × Int := if checkP g s = true then runL g l s [] else (z28, [], 1)
theorem feedP_len {g : S23} {s : S28} {r : S50} (h : s.f4.length ≤ 1000) : (feedP g s r).1.f4.length ≤ 1000 ∧ (feedP g s r).2.1.length ≤ 1000 := by
  unfold feedP
  split
  · split
    · simp [z28]
    · split
      · simp only []
        split
        · exact ⟨Nat.le_trans (List.length_filter_le _ _) h, Nat.le_trans (List.length_filter_le _ _) h⟩
        · rename_i hd
          simp at hd
          exact ⟨Nat.le_trans (List.length_filter_le _ _) (by omega), Nat.le_trans (List.length_filter_le _ _) (by omega)⟩
      · exact ⟨h, by simp⟩
  · simp [z28]
/-- Run's boxes. -/
structure RunW (w wc : World) (g : S23) (s : S28) (v4 : Value) : Prop where
  gg : wc.heap[w.heap.size]? = some (.cells #[.int .i64 g.f0, .int .i64 g.f1, .int .i64 g.f2] 23 (0, 0))
  gs : wc.heap[w.heap.size + 1]? = some (.cells #[.int .i64 s.f0, .int .i64 s.f1, .int .i64 s.f2, .int .i64 s.f3, v4] 28 (0, 0))
  ge : wc.heap[w.heap.size + 2]? = some (.cells #[.int .i64 0, .int .i64 0, .int .i64 0, .int .i64 0, .slice none 0 0] 28 (0, 0))
  bl : Below w.heap.size w wc
  row : Kd.R k46 46 wc w.heap.size (fun k => w.heap.size + 3 ≤ k) v4 s.f4
theorem RunW.below {w wc w' : World} {g : S23} {s : S28} {v4 : Value} (h : RunW w wc g s v4) (hb : Below wc.heap.size wc w') : RunW w w' g s v4 :=
  ⟨blk_below h.gg hb, blk_below h.gs hb, blk_below h.ge hb, h.bl.trans (hb.mono h.bl.size), Kd.R_below h.row hb⟩
theorem RunW.size {w wc : World} {g : S23} {s : S28} {v4 : Value} (h : RunW w wc g s v4) : w.heap.size + 3 ≤ wc.heap.size := by
  have := lt_of_block h.ge
  omega
/-- The state, taken over. -/
theorem RunW.take {w wc : World} {g : S23} {s t : S28} {v4 v5 : Value} (h : RunW w wc g s v4) (hR : Kd.R k46 46 wc w.heap.size (fun k => w.heap.size + 3 ≤ k) v5 t.f4) :
    RunW w (put5 wc (w.heap.size + 1) (.int .i64 t.f0) (.int .i64 t.f1) (.int .i64 t.f2) (.int .i64 t.f3) v5) g t v5 :=
  ⟨(put5_other (by omega) _ _ _ _ _).trans h.gg, put5_heap h.gs _ _ _ _ _, (put5_other (by omega) _ _ _ _ _).trans h.ge, put5_below h.bl (by omega) _ _ _ _ _, R_other hR (fun k hk => put5_other (by omega) _ _ _ _ _)⟩
set_option maxHeartbeats 16000000 in
set_option maxRecDepth 100000 in
theorem run_calls (g : S23) (s : S28) (l : List S50) (A B : Option Addr) (c cl : Nat) (w : World) (hr : k46.C w A s.f4.length s.f4) (hc : s.f4.length ≤ c) (hl : s.f4.length ≤ 1000) (hn : A = none → s.f4 = [] ∧ c = 0)
    (hB : k50.C w B l.length l) (hcl : l.length ≤ cl) (hll : l.length ≤ 1000) (hs : ∀ r ∈ l, r.f2.size ≤ 1000000000) :
    Calls Try.prog 15 #[gridV g, .agg #[.int .i64 s.f0, .int .i64 s.f1, .int .i64 s.f2, .int .i64 s.f3, .slice A s.f4.length c], .slice B l.length cl] w (FedP w (runP g s l)) := by
  obtain ⟨FP, hFP⟩ : ∃ p, runP g s l = p := ⟨_, rfl⟩
  rw [hFP]
  obtain ⟨W3, hW3⟩ : ∃ W, W = (((w.alloc (.cells #[.int .i64 g.f0, .int .i64 g.f1, .int .i64 g.f2] 23)).alloc (.cells #[.int .i64 s.f0, .int .i64 s.f1, .int .i64 s.f2, .int .i64 s.f3, .slice A s.f4.length c] 28)).alloc (.cells #[.int .i64 0, .int .i64 0, .int .i64 0, .int .i64 0, .slice none 0 0] 28)) := ⟨_, rfl⟩
  have hgg : W3.heap[w.heap.size]? = some (.cells #[.int .i64 g.f0, .int .i64 g.f1, .int .i64 g.f2] 23 (0, 0)) := by
    rw [hW3, Below.heap_alloc _ _ _ (by simp; omega), Below.heap_alloc _ _ _ (by simp)]
    exact heap_alloc_new _ _
  have hgs : W3.heap[w.heap.size + 1]? = some (.cells #[.int .i64 s.f0, .int .i64 s.f1, .int .i64 s.f2, .int .i64 s.f3, .slice A s.f4.length c] 28 (0, 0)) := by
    rw [hW3, Below.heap_alloc _ _ _ (by simp)]
    have := heap_alloc_new (w.alloc (.cells #[.int .i64 g.f0, .int .i64 g.f1, .int .i64 g.f2] 23)) (.cells #[.int .i64 s.f0, .int .i64 s.f1, .int .i64 s.f2, .int .i64 s.f3, .slice A s.f4.length c] 28)
    simpa using this
  have hge : W3.heap[w.heap.size + 2]? = some (.cells #[.int .i64 0, .int .i64 0, .int .i64 0, .int .i64 0, .slice none 0 0] 28 (0, 0)) := by
    rw [hW3]
    have := heap_alloc_new ((w.alloc (.cells #[.int .i64 g.f0, .int .i64 g.f1, .int .i64 g.f2] 23)).alloc (.cells #[.int .i64 s.f0, .int .i64 s.f1, .int .i64 s.f2, .int .i64 s.f3, .slice A s.f4.length c] 28)) (.cells #[.int .i64 0, .int .i64 0, .int .i64 0, .int .i64 0, .slice none 0 0] 28)
    simpa using this
  have hb3 : Below w.heap.size w W3 := by
    rw [hW3]
    exact (((Below.refl _ _).alloc (Nat.le_refl _) _).alloc (by simp) _).alloc (by simp; omega) _
  have hsz3 : w.heap.size + 3 ≤ W3.heap.size := lt_of_block hge
  have hr3 := Kd.C_below hr hb3
  have hchk := check21_calls g s A c W3 hr3 hc (by omega)
  obtain ⟨b1, hb1⟩ : ∃ b, checkP g s = b := ⟨_, rfl⟩
  rw [hb1] at hchk
  unfold runP at hFP
  rw [hb1] at hFP
  have HCHK := Lib.hid hchk
  have HG := Lib.hid hgg
  have HS := Lib.hid hgs
  have HE := Lib.hid hge
  have HB3 := Lib.hid hb3
  have HW3 := Lib.hid hW3
  have HR3 := Lib.hid hr3
  have HBR := Lib.hid hB
  have HN := Lib.hid hn
  have HSS := Lib.hid hs
  clear hchk hgg hgs hge hb3 hW3 hr3 hr hb1 hn hB hs
  cases b1 with
  | false =>
    rw [if_neg (by decide)] at hFP
    have hfp := Lib.hid hFP
    clear hFP
    go_enter Try.func15, Try.ntmps15
    go_wp2_with (first | (go_at_call 21; go_loud (rw [← HW3.out]; (with_reducible refine HCHK.out.mono ?_); rintro e w1 ⟨rfl, hb1⟩; have e9 := blk_below HE.out hb1; have e0 : (w1).cell? ⟨w.heap.size + 2, 0, none⟩ = some (.int .i64 0) := (blk_cell e9 0).trans rfl; have e1 : (w1).cell? ⟨w.heap.size + 2, 1, none⟩ = some (.int .i64 0) := (blk_cell e9 1).trans rfl; have e2 : (w1).cell? ⟨w.heap.size + 2, 2, none⟩ = some (.int .i64 0) := (blk_cell e9 2).trans rfl; have e3 : (w1).cell? ⟨w.heap.size + 2, 3, none⟩ = some (.int .i64 0) := (blk_cell e9 3).trans rfl; have e4 : (w1).cell? ⟨w.heap.size + 2, 4, none⟩ = some (.slice none 0 0) := (blk_cell e9 4).trans rfl; have ef0 : (w1).frozen? ⟨w.heap.size + 2, 0, none⟩ = false := blk_frozen e9 0; have ef1 : (w1).frozen? ⟨w.heap.size + 2, 1, none⟩ = false := blk_frozen e9 1; have ef2 : (w1).frozen? ⟨w.heap.size + 2, 2, none⟩ = false := blk_frozen e9 2; have ef3 : (w1).frozen? ⟨w.heap.size + 2, 3, none⟩ = false := blk_frozen e9 3; have ef4 : (w1).frozen? ⟨w.heap.size + 2, 4, none⟩ = false := blk_frozen e9 4; have HE9 := Lib.hid e9; have HBB := Lib.hid (HB3.out.trans ((hb1).mono HB3.out.size)); clear e9; clear hb1)))
    have hp := hfp.out
    subst hp
    refine bodyPost_ret (results_ctt rfl _ _ (w.heap.size + 1 + 1) 28 #[.int .i64 0, .int .i64 0, .int .i64 0, .int .i64 0, .slice none 0 0] (0, 0) _ rfl (put5_heap (w := w1) (g := w.heap.size + 1 + 1) HE9.out (.int .i64 0) (.int .i64 0) (.int .i64 0) (.int .i64 0) (.slice none 0 0)) Try.underlying28 rfl (by kernel_rfl)) rfl ?_
    exact ⟨_, _, rfl, Kd.R_nil _ _ _ _ _, Kd.R_nil _ _ _ _ _, put5_below (g := w.heap.size + 1 + 1) HBB.out (by omega) _ _ _ _ _⟩
  | true =>
    rw [if_pos rfl] at hFP
    have hfp := Lib.hid hFP
    clear hFP
    go_enter Try.func15, Try.ntmps15
    go_wp2_with (first | (go_at_call 21; go_loud (rw [← HW3.out]; (with_reducible refine HCHK.out.mono ?_); rintro e w1 ⟨rfl, hb1⟩; have s1 := blk_below HS.out hb1; have p0 : (w1).cell? ⟨w.heap.size + 1, 0, none⟩ = some (.int .i64 s.f0) := (blk_cell s1 0).trans rfl; have p1 : (w1).cell? ⟨w.heap.size + 1, 1, none⟩ = some (.int .i64 s.f1) := (blk_cell s1 1).trans rfl; have p2 : (w1).cell? ⟨w.heap.size + 1, 2, none⟩ = some (.int .i64 s.f2) := (blk_cell s1 2).trans rfl; have p3 : (w1).cell? ⟨w.heap.size + 1, 3, none⟩ = some (.int .i64 s.f3) := (blk_cell s1 3).trans rfl; have p4 : (w1).cell? ⟨w.heap.size + 1, 4, none⟩ = some (.slice A s.f4.length c) := (blk_cell s1 4).trans rfl; have HX1 := Lib.hid hb1; clear s1 hb1)) | (go_at_call 42; go_loud ((with_reducible refine (clone_calls A c s.f4 _ (Kd.C_below HR3.out HX1.out) hc (by omega) HN.out).mono ?_); rintro e w2 ⟨v5, rfl, hR5, hb2⟩; obtain ⟨A5, c5, rfl, hc5, _⟩ := Kd.R_reads hR5; have hx2 : Below W3.heap.size W3 w2 := HX1.out.trans (hb2.mono HX1.out.size); have s2 := blk_below HS.out hx2; have q0 : (w2).cell? ⟨w.heap.size + 1, 0, none⟩ = some (.int .i64 s.f0) := (blk_cell s2 0).trans rfl; have q1 : (w2).cell? ⟨w.heap.size + 1, 1, none⟩ = some (.int .i64 s.f1) := (blk_cell s2 1).trans rfl; have q2 : (w2).cell? ⟨w.heap.size + 1, 2, none⟩ = some (.int .i64 s.f2) := (blk_cell s2 2).trans rfl; have q3 : (w2).cell? ⟨w.heap.size + 1, 3, none⟩ = some (.int .i64 s.f3) := (blk_cell s2 3).trans rfl; have q4 : (w2).cell? ⟨w.heap.size + 1, 4, none⟩ = some (.slice A s.f4.length c) := (blk_cell s2 4).trans rfl; have qf0 : (w2).frozen? ⟨w.heap.size + 1, 0, none⟩ = false := blk_frozen s2 0; have qf1 : (w2).frozen? ⟨w.heap.size + 1, 1, none⟩ = false := blk_frozen s2 1; have qf2 : (w2).frozen? ⟨w.heap.size + 1, 2, none⟩ = false := blk_frozen s2 2; have qf3 : (w2).frozen? ⟨w.heap.size + 1, 3, none⟩ = false := blk_frozen s2 3; have qf4 : (w2).frozen? ⟨w.heap.size + 1, 4, none⟩ = false := blk_frozen s2 4; have HX2 := Lib.hid hx2; have HR5 := Lib.hid hR5; have HSZ1 := Lib.hid HX1.out.size; clear hx2 s2 hb2 hR5)))
    have F3 : RunW w (w2.setCell ⟨w.heap.size + 1, 4, none⟩ (.slice A5 s.f4.length c5)) g s (.slice A5 s.f4.length c5) :=
      ⟨(heap_setCell_other _ _ _ _ (show w.heap.size ≠ w.heap.size + 1 by omega)).trans (blk_below HG.out HX2.out), blk_put (blk_below HS.out HX2.out) 4 _ rfl, (heap_setCell_other _ _ _ _ (show w.heap.size + 2 ≠ w.heap.size + 1 by omega)).trans (blk_below HE.out HX2.out),
       (HB3.out.trans (HX2.out.mono HB3.out.size)).setCell (show w.heap.size ≤ w.heap.size + 1 by omega) _, R_other (R_base HR5.out (by have := HSZ1.out; omega) (by have := HSZ1.out; omega)) (fun k hk => heap_setCell_other _ _ _ _ (show k ≠ w.heap.size + 1 by omega))⟩
    have HF3 := Lib.hid F3
    clear F3
    go_loopg [9, 26] l.length (fun kq v9 v26 wr => ∃ (i : Nat) (t : S28) (all : List S46) (A4 : Option Addr) (c4 : Nat), v26 = .int .i64 (i : Int) ∧ i ≤ l.length ∧ l.length - i ≤ kq ∧ runL g (l.drop i) t all = FP ∧ RunW w wr g t (.slice A4 t.f4.length c4) ∧ t.f4.length ≤ 1000 ∧ all.length ≤ 1000 * i ∧ Kd.R k46 46 wr w.heap.size (fun k => w.heap.size + 3 ≤ k) v9 all)
    case atStart => exact ⟨0, s, [], A5, c5, rfl, Nat.zero_le _, by omega, hfp.out, HF3.out, hl, by simp, Kd.R_nil _ _ _ _ _⟩
    case round =>
      obtain ⟨i, t, all, A4, c4, rfl, hil, hik, ho, hrw, htl, hal, hR9⟩ := hrel
      clear HF3 hfp
      have F := hrw
      by_cases hlt : i < l.length
      rotate_left
      · have d1 : decide ((i : Int) < (l.length : Int)) = false := decide_eq_false (by omega)
        rw [List.drop_eq_nil_of_le (by omega)] at ho
        change (t, all, 0) = FP at ho
        have k0 : (wr).cell? ⟨w.heap.size + 1, 0, none⟩ = some (.int .i64 t.f0) := (blk_cell F.gs 0).trans rfl
        have k1 : (wr).cell? ⟨w.heap.size + 1, 1, none⟩ = some (.int .i64 t.f1) := (blk_cell F.gs 1).trans rfl
        have k2 : (wr).cell? ⟨w.heap.size + 1, 2, none⟩ = some (.int .i64 t.f2) := (blk_cell F.gs 2).trans rfl
        have k3 : (wr).cell? ⟨w.heap.size + 1, 3, none⟩ = some (.int .i64 t.f3) := (blk_cell F.gs 3).trans rfl
        have k4 : (wr).cell? ⟨w.heap.size + 1, 4, none⟩ = some (.slice A4 t.f4.length c4) := (blk_cell F.gs 4).trans rfl
        have e0 : (wr).cell? ⟨w.heap.size + 2, 0, none⟩ = some (.int .i64 0) := (blk_cell F.ge 0).trans rfl
        have e1 : (wr).cell? ⟨w.heap.size + 2, 1, none⟩ = some (.int .i64 0) := (blk_cell F.ge 1).trans rfl
        have e2 : (wr).cell? ⟨w.heap.size + 2, 2, none⟩ = some (.int .i64 0) := (blk_cell F.ge 2).trans rfl
        have e3 : (wr).cell? ⟨w.heap.size + 2, 3, none⟩ = some (.int .i64 0) := (blk_cell F.ge 3).trans rfl
        have e4 : (wr).cell? ⟨w.heap.size + 2, 4, none⟩ = some (.slice none 0 0) := (blk_cell F.ge 4).trans rfl
        have ef0 : (wr).frozen? ⟨w.heap.size + 2, 0, none⟩ = false := blk_frozen F.ge 0
        have ef1 : (wr).frozen? ⟨w.heap.size + 2, 1, none⟩ = false := blk_frozen F.ge 1
        have ef2 : (wr).frozen? ⟨w.heap.size + 2, 2, none⟩ = false := blk_frozen F.ge 2
        have ef3 : (wr).frozen? ⟨w.heap.size + 2, 3, none⟩ = false := blk_frozen F.ge 3
        have ef4 : (wr).frozen? ⟨w.heap.size + 2, 4, none⟩ = false := blk_frozen F.ge 4
        have HF := Lib.hid F
        have HO := Lib.hid ho
        have HR9 := Lib.hid hR9
        clear F hrw ho hR9
        go_wp2
        have hp := HO.out
        subst hp
        refine bodyPost_ret (results_ctt rfl _ _ (w.heap.size + 1 + 1) 28 #[.int .i64 t.f0, .int .i64 t.f1, .int .i64 t.f2, .int .i64 t.f3, .slice A4 t.f4.length c4] (0, 0) _ rfl (put5_heap (w := wr) (g := w.heap.size + 1 + 1) HF.out.ge (.int .i64 t.f0) (.int .i64 t.f1) (.int .i64 t.f2) (.int .i64 t.f3) (.slice A4 t.f4.length c4)) Try.underlying28 rfl (by kernel_rfl)) rfl ?_
        refine ⟨_, _, rfl, ?_, ?_, put5_below (g := w.heap.size + 1 + 1) HF.out.bl (by omega) _ _ _ _ _⟩
        · exact R_ok (R_other (w := wr) HF.out.row (fun k hk => put5_other (g := w.heap.size + 1 + 1) (by omega) _ _ _ _ _)) (fun _ _ => trivial)
        · exact R_ok (R_other (w := wr) HR9.out (fun k hk => put5_other (g := w.heap.size + 1 + 1) (by omega) _ _ _ _ _)) (fun _ _ => trivial)
      have d1 : decide ((i : Int) < (l.length : Int)) = true := decide_eq_true (by omega)
      obtain ⟨ad, had, x0, x1, x2⟩ := at_T50 (Kd.C_below HBR.out F.bl) (i : Int) (by omega) (by omega)
      cases had
      rw [Int.toNat_natCast] at x0 x1 x2
      have hrd : rd_T50 l (i : Int) = l[i] := by simp [rd_T50, List.getD, List.getElem?_eq_getElem hlt]
      have hxs : (rd_T50 l (i : Int)).f2.size ≤ 1000000000 := by rw [hrd]; exact HSS.out _ (List.getElem_mem hlt)
      rw [List.drop_eq_getElem_cons hlt, ← hrd] at ho
      clear hrd
      obtain ⟨x, hx⟩ : ∃ x, rd_T50 l (i : Int) = x := ⟨_, rfl⟩
      rw [hx] at x0 x1 x2 hxs ho
      clear hx
      rw [runL] at ho
      have hfl := feedP_len (g := g) (s := t) (r := x) htl
      obtain ⟨p, hp⟩ : ∃ p, feedP g t x = p := ⟨_, rfl⟩
      rw [hp] at ho hfl
      obtain ⟨Wa, hWa⟩ : ∃ W, W = wr.alloc (.cells #[.int .i64 x.f0, .int .i64 x.f1, .string x.f2] 50) := ⟨_, rfl⟩
      have hba : Below wr.heap.size wr Wa := by rw [hWa]; exact (Below.refl _ _).alloc (Nat.le_refl _) _
      have Fa := F.below hba
      have hfeed := feed_calls g t x A4 c4 Wa (Kd.R_reads' Fa.row).2.2 (Kd.R_reads' Fa.row).2.1 htl (R_nil26 Fa.row) hxs
      rw [hp] at hfeed
      have k0 : (wr).cell? ⟨w.heap.size + 1, 0, none⟩ = some (.int .i64 t.f0) := (blk_cell F.gs 0).trans rfl
      have k1 : (wr).cell? ⟨w.heap.size + 1, 1, none⟩ = some (.int .i64 t.f1) := (blk_cell F.gs 1).trans rfl
      have k2 : (wr).cell? ⟨w.heap.size + 1, 2, none⟩ = some (.int .i64 t.f2) := (blk_cell F.gs 2).trans rfl
      have k3 : (wr).cell? ⟨w.heap.size + 1, 3, none⟩ = some (.int .i64 t.f3) := (blk_cell F.gs 3).trans rfl
      have k4 : (wr).cell? ⟨w.heap.size + 1, 4, none⟩ = some (.slice A4 t.f4.length c4) := (blk_cell F.gs 4).trans rfl
      have g0 : (wr).cell? ⟨w.heap.size, 0, none⟩ = some (.int .i64 g.f0) := (blk_cell F.gg 0).trans rfl
      have g1 : (wr).cell? ⟨w.heap.size, 1, none⟩ = some (.int .i64 g.f1) := (blk_cell F.gg 1).trans rfl
      have g2 : (wr).cell? ⟨w.heap.size, 2, none⟩ = some (.int .i64 g.f2) := (blk_cell F.gg 2).trans rfl
      have n0 : (Wa).cell? ⟨w.heap.size + 1, 0, none⟩ = some (.int .i64 t.f0) := (blk_cell Fa.gs 0).trans rfl
      have n1 : (Wa).cell? ⟨w.heap.size + 1, 1, none⟩ = some (.int .i64 t.f1) := (blk_cell Fa.gs 1).trans rfl
      have n2 : (Wa).cell? ⟨w.heap.size + 1, 2, none⟩ = some (.int .i64 t.f2) := (blk_cell Fa.gs 2).trans rfl
      have n3 : (Wa).cell? ⟨w.heap.size + 1, 3, none⟩ = some (.int .i64 t.f3) := (blk_cell Fa.gs 3).trans rfl
      have n4 : (Wa).cell? ⟨w.heap.size + 1, 4, none⟩ = some (.slice A4 t.f4.length c4) := (blk_cell Fa.gs 4).trans rfl
      have m0 : (Wa).cell? ⟨w.heap.size, 0, none⟩ = some (.int .i64 g.f0) := (blk_cell Fa.gg 0).trans rfl
      have m1 : (Wa).cell? ⟨w.heap.size, 1, none⟩ = some (.int .i64 g.f1) := (blk_cell Fa.gg 1).trans rfl
      have m2 : (Wa).cell? ⟨w.heap.size, 2, none⟩ = some (.int .i64 g.f2) := (blk_cell Fa.gg 2).trans rfl
      rw [hWa] at n0 n1 n2 n3 n4 m0 m1 m2
      cases gk with
      | zero => omega
      | succ gk =>
      have HFEED := Lib.hid hfeed
      have HFa := Lib.hid Fa
      have HWa := Lib.hid hWa
      have HR9 := Lib.hid (Kd.R_below hR9 hba)
      have HBA := Lib.hid hba
      obtain ⟨q, ov, er⟩ := p
      simp only at ho hfl
      clear hfeed Fa hWa hR9 hba F hrw hp
      by_cases he : er = 0
      rotate_left
      · have de : (er == 0) = false := beq_eq_false_iff_ne.2 he
        rw [if_neg he] at ho
        have HO := Lib.hid ho
        clear ho he
        go_wp2_with (first | (go_at_call 29; go_loud (rw [← HWa.out]; (with_reducible refine HFEED.out.mono ?_); rintro e w3 ⟨v6, vo, rfl, hR6, hRo, hb6⟩; obtain ⟨A6, c6, rfl, hc6, _⟩ := Kd.R_reads hR6; have F6 := HFa.out.below hb6; have hbt : Below w3.heap.size w3 (w3.alloc (.cells #[.int .i64 q.f0, .int .i64 q.f1, .int .i64 q.f2, .int .i64 q.f3, .slice A6 q.f4.length c6] 28)) := (Below.refl _ _).alloc (Nat.le_refl _) _; have Ft := F6.below hbt; have e0 : (w3.alloc (.cells #[.int .i64 q.f0, .int .i64 q.f1, .int .i64 q.f2, .int .i64 q.f3, .slice A6 q.f4.length c6] 28)).cell? ⟨w.heap.size + 2, 0, none⟩ = some (.int .i64 0) := (blk_cell Ft.ge 0).trans rfl; have e1 : (w3.alloc (.cells #[.int .i64 q.f0, .int .i64 q.f1, .int .i64 q.f2, .int .i64 q.f3, .slice A6 q.f4.length c6] 28)).cell? ⟨w.heap.size + 2, 1, none⟩ = some (.int .i64 0) := (blk_cell Ft.ge 1).trans rfl; have e2 : (w3.alloc (.cells #[.int .i64 q.f0, .int .i64 q.f1, .int .i64 q.f2, .int .i64 q.f3, .slice A6 q.f4.length c6] 28)).cell? ⟨w.heap.size + 2, 2, none⟩ = some (.int .i64 0) := (blk_cell Ft.ge 2).trans rfl; have e3 : (w3.alloc (.cells #[.int .i64 q.f0, .int .i64 q.f1, .int .i64 q.f2, .int .i64 q.f3, .slice A6 q.f4.length c6] 28)).cell? ⟨w.heap.size + 2, 3, none⟩ = some (.int .i64 0) := (blk_cell Ft.ge 3).trans rfl; have e4 : (w3.alloc (.cells #[.int .i64 q.f0, .int .i64 q.f1, .int .i64 q.f2, .int .i64 q.f3, .slice A6 q.f4.length c6] 28)).cell? ⟨w.heap.size + 2, 4, none⟩ = some (.slice none 0 0) := (blk_cell Ft.ge 4).trans rfl; have ef0 : (w3.alloc (.cells #[.int .i64 q.f0, .int .i64 q.f1, .int .i64 q.f2, .int .i64 q.f3, .slice A6 q.f4.length c6] 28)).frozen? ⟨w.heap.size + 2, 0, none⟩ = false := blk_frozen Ft.ge 0; have ef1 : (w3.alloc (.cells #[.int .i64 q.f0, .int .i64 q.f1, .int .i64 q.f2, .int .i64 q.f3, .slice A6 q.f4.length c6] 28)).frozen? ⟨w.heap.size + 2, 1, none⟩ = false := blk_frozen Ft.ge 1; have ef2 : (w3.alloc (.cells #[.int .i64 q.f0, .int .i64 q.f1, .int .i64 q.f2, .int .i64 q.f3, .slice A6 q.f4.length c6] 28)).frozen? ⟨w.heap.size + 2, 2, none⟩ = false := blk_frozen Ft.ge 2; have ef3 : (w3.alloc (.cells #[.int .i64 q.f0, .int .i64 q.f1, .int .i64 q.f2, .int .i64 q.f3, .slice A6 q.f4.length c6] 28)).frozen? ⟨w.heap.size + 2, 3, none⟩ = false := blk_frozen Ft.ge 3; have ef4 : (w3.alloc (.cells #[.int .i64 q.f0, .int .i64 q.f1, .int .i64 q.f2, .int .i64 q.f3, .slice A6 q.f4.length c6] 28)).frozen? ⟨w.heap.size + 2, 4, none⟩ = false := blk_frozen Ft.ge 4; have HFt := Lib.hid Ft; clear F6 hbt Ft hR6 hRo hb6)))
        have hp := HO.out
        subst hp
        refine bodyPost_ret (results_ctt rfl _ _ (w.heap.size + 1 + 1) 28 #[.int .i64 0, .int .i64 0, .int .i64 0, .int .i64 0, .slice none 0 0] (0, 0) _ rfl (put5_heap (w := w3.alloc (.cells #[.int .i64 q.f0, .int .i64 q.f1, .int .i64 q.f2, .int .i64 q.f3, .slice A6 q.f4.length c6] 28)) (g := w.heap.size + 1 + 1) HFt.out.ge (.int .i64 0) (.int .i64 0) (.int .i64 0) (.int .i64 0) (.slice none 0 0)) Try.underlying28 rfl (by kernel_rfl)) rfl ?_
        exact ⟨_, _, rfl, Kd.R_nil _ _ _ _ _, Kd.R_nil _ _ _ _ _, put5_below (g := w.heap.size + 1 + 1) HFt.out.bl (by omega) _ _ _ _ _⟩
      · subst he
        rw [if_pos rfl] at ho
        have HO := Lib.hid ho
        clear ho
        obtain ⟨A9, c9, rfl, hc9, _⟩ := Kd.R_reads HR9.out
        go_wp2_with (first | (go_at_call 29; go_loud (rw [← HWa.out]; (with_reducible refine HFEED.out.mono ?_); rintro e w3 ⟨v6, vo, rfl, hR6, hRo, hb6⟩; obtain ⟨A6, c6, rfl, hc6, _⟩ := Kd.R_reads hR6; obtain ⟨Ao, co, rfl, hco, _⟩ := Kd.R_reads hRo; have F6 := HFa.out.below hb6; have hbt : Below w3.heap.size w3 (w3.alloc (.cells #[.int .i64 q.f0, .int .i64 q.f1, .int .i64 q.f2, .int .i64 q.f3, .slice A6 q.f4.length c6] 28)) := (Below.refl _ _).alloc (Nat.le_refl _) _; have Ft := F6.below hbt; have hsa := HFa.out.size; have hs6 := hb6.size; have hst := hbt.size; have e0 : (w3.alloc (.cells #[.int .i64 q.f0, .int .i64 q.f1, .int .i64 q.f2, .int .i64 q.f3, .slice A6 q.f4.length c6] 28)).cell? ⟨w.heap.size + 1, 0, none⟩ = some (.int .i64 t.f0) := (blk_cell Ft.gs 0).trans rfl; have e1 : (w3.alloc (.cells #[.int .i64 q.f0, .int .i64 q.f1, .int .i64 q.f2, .int .i64 q.f3, .slice A6 q.f4.length c6] 28)).cell? ⟨w.heap.size + 1, 1, none⟩ = some (.int .i64 t.f1) := (blk_cell Ft.gs 1).trans rfl; have e2 : (w3.alloc (.cells #[.int .i64 q.f0, .int .i64 q.f1, .int .i64 q.f2, .int .i64 q.f3, .slice A6 q.f4.length c6] 28)).cell? ⟨w.heap.size + 1, 2, none⟩ = some (.int .i64 t.f2) := (blk_cell Ft.gs 2).trans rfl; have e3 : (w3.alloc (.cells #[.int .i64 q.f0, .int .i64 q.f1, .int .i64 q.f2, .int .i64 q.f3, .slice A6 q.f4.length c6] 28)).cell? ⟨w.heap.size + 1, 3, none⟩ = some (.int .i64 t.f3) := (blk_cell Ft.gs 3).trans rfl; have e4 : (w3.alloc (.cells #[.int .i64 q.f0, .int .i64 q.f1, .int .i64 q.f2, .int .i64 q.f3, .slice A6 q.f4.length c6] 28)).cell? ⟨w.heap.size + 1, 4, none⟩ = some (.slice A4 t.f4.length c4) := (blk_cell Ft.gs 4).trans rfl; have ef0 : (w3.alloc (.cells #[.int .i64 q.f0, .int .i64 q.f1, .int .i64 q.f2, .int .i64 q.f3, .slice A6 q.f4.length c6] 28)).frozen? ⟨w.heap.size + 1, 0, none⟩ = false := blk_frozen Ft.gs 0; have ef1 : (w3.alloc (.cells #[.int .i64 q.f0, .int .i64 q.f1, .int .i64 q.f2, .int .i64 q.f3, .slice A6 q.f4.length c6] 28)).frozen? ⟨w.heap.size + 1, 1, none⟩ = false := blk_frozen Ft.gs 1; have ef2 : (w3.alloc (.cells #[.int .i64 q.f0, .int .i64 q.f1, .int .i64 q.f2, .int .i64 q.f3, .slice A6 q.f4.length c6] 28)).frozen? ⟨w.heap.size + 1, 2, none⟩ = false := blk_frozen Ft.gs 2; have ef3 : (w3.alloc (.cells #[.int .i64 q.f0, .int .i64 q.f1, .int .i64 q.f2, .int .i64 q.f3, .slice A6 q.f4.length c6] 28)).frozen? ⟨w.heap.size + 1, 3, none⟩ = false := blk_frozen Ft.gs 3; have ef4 : (w3.alloc (.cells #[.int .i64 q.f0, .int .i64 q.f1, .int .i64 q.f2, .int .i64 q.f3, .slice A6 q.f4.length c6] 28)).frozen? ⟨w.heap.size + 1, 4, none⟩ = false := blk_frozen Ft.gs 4; have R6 := Kd.R_below (R_base hR6 (show w.heap.size ≤ Wa.heap.size by omega) (show w.heap.size + 3 ≤ Wa.heap.size by omega)) hbt; have Ro := Kd.R_below (R_base hRo (show w.heap.size ≤ Wa.heap.size by omega) (show w.heap.size + 3 ≤ Wa.heap.size by omega)) hbt; have Ra := Kd.R_below (Kd.R_below HR9.out hb6) hbt; have F5 := Ft.take (t := q) R6; have Ro5 := R_other Ro (fun k hk => put5_other (g := w.heap.size + 1) (by omega) (.int .i64 q.f0) (.int .i64 q.f1) (.int .i64 q.f2) (.int .i64 q.f3) (.slice A6 q.f4.length c6)); have Ra5 := R_other Ra (fun k hk => put5_other (g := w.heap.size + 1) (by omega) (.int .i64 q.f0) (.int .i64 q.f1) (.int .i64 q.f2) (.int .i64 q.f3) (.slice A6 q.f4.length c6)); have hne : ∀ k, (Value.slice A6 q.f4.length c6).ownBlock = some k → some k ≠ (Value.slice A9 all.length c9).ownBlock := (fun k hk e => (by obtain ⟨o1, ho1⟩ := blk_own HR9.out e.symm; have h1 := lt_of_block ho1; have h2 := (R_base hR6 (Nat.le_refl _) (Nat.le_refl _)).1 k hk; simp only at h2; omega)); have HF5 := Lib.hid F5; have HRo5 := Lib.hid Ro5; have HRa5 := Lib.hid Ra5; have HNE := Lib.hid hne; clear hR6 hRo F6 Ft hbt hb6 R6 Ro Ra F5 Ro5 Ra5 hne hsa hs6 hst)) | ((with_reducible refine gate_builtin (b := .append) (xs := #[.tmp 43, .tmp 44]) rfl ?_); (try (refine gate_guard (by rfl) ?_; dsimp only)); at_builtin; refine Kd.R_append_rows k46 (w0 := w) w.heap.size rfl (.tmp 43) (.tmp 44) 26 46 (.agg #[(.int .i64 0), (.int .i64 0), (.int .i64 0), (.int .i64 0), (.int .i64 0), (.int .i64 0), (.int .i64 0), (.int .i64 0), (.int .i64 0), (.int .i64 0), (.int .i64 0), (.int .i64 0)]) 96 rfl Try.underlying26 info46 rfl (by decide) (by omega) (.slice A9 all.length c9) all ov _ _ _ (fun k => w.heap.size + 3 ≤ k) (fun _ => False) rfl rfl HRa5.out (Kd.R_reads' HRo5.out).2.2 (fun _ _ h => by obtain rfl := k46_open h; exact k46_mkM _ _ _ _) (fun _ h => h.elim) (fun k hk => Nat.le_trans HF5.out.size hk) HF5.out.bl (Nat.le_trans (by omega) HF5.out.size) ?aL ?_; (case aL => omega); intro v8 w8 hR8 hb8 hg8 hat8))
        go_roundg gk
        case measure => omega
        case rel =>
          have F5 := HF5.out
          have hoth : ∀ k, k < (put5 (w3.alloc (.cells #[.int .i64 q.f0, .int .i64 q.f1, .int .i64 q.f2, .int .i64 q.f3, .slice A6 q.f4.length c6] 28)) (w.heap.size + 1) (.int .i64 q.f0) (.int .i64 q.f1) (.int .i64 q.f2) (.int .i64 q.f3) (.slice A6 q.f4.length c6)).heap.size → some k ≠ (Value.slice A9 all.length c9).ownBlock → w8.heap[k]? = (put5 (w3.alloc (.cells #[.int .i64 q.f0, .int .i64 q.f1, .int .i64 q.f2, .int .i64 q.f3, .slice A6 q.f4.length c6] 28)) (w.heap.size + 1) (.int .i64 q.f0) (.int .i64 q.f1) (.int .i64 q.f2) (.int .i64 q.f3) (.slice A6 q.f4.length c6)).heap[k]? := fun k hk hn => hg8.block k hk (by first | exact hn | exact fun e => hn e.symm)
          have hne3 : ∀ k, k < w.heap.size + 3 → some k ≠ (Value.slice A9 all.length c9).ownBlock := fun k hk e => by
            have := HRa5.out.1 k e.symm
            simp only at this
            omega
          have hsz5 := F5.size
          refine ⟨i + 1, q, all ++ ov, A6, c6, by first | rfl | (congr 1), by omega, by omega, HO.out, ⟨(hoth _ (by omega) (hne3 _ (by omega))).trans F5.gg, (hoth _ (by omega) (hne3 _ (by omega))).trans F5.gs, (hoth _ (by omega) (hne3 _ (by omega))).trans F5.ge, hb8, ?_⟩, hfl.1, by rw [List.length_append]; have := hfl.2; omega, hR8⟩
          refine R_of_own ⟨(own_of_R F5.row).1, ?_⟩ F5.row.1
          rcases (own_of_R F5.row).2 with e | ⟨g9, cap, cur, e, h1, h2, h3⟩
          · exact .inl e
          · exact .inr ⟨g9, cap, cur, e, h1, (hoth g9 (lt_of_block h2) (HNE.out g9 (by rw [e]; rfl))).trans h2, h3⟩
end Go.Proofs.Ytgipepjpkmlmaaa.P
