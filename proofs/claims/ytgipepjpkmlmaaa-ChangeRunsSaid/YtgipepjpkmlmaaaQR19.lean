import Derived.Test.YtgipepjpkmlmaaaQR2
import Derived.Test.YtgipepjpkmlmaaaQR3
import Derived.Test.YtgipepjpkmlmaaaQR4
import Derived.Test.YtgipepjpkmlmaaaQR5
import Derived.Test.YtgipepjpkmlmaaaQR6
import Derived.Test.YtgipepjpkmlmaaaQR7
import Derived.Test.YtgipepjpkmlmaaaQR8
import Derived.Test.YtgipepjpkmlmaaaQR11
import Derived.Test.YtgipepjpkmlmaaaQR13
import Derived.Test.YtgipepjpkmlmaaaQR15
import Derived.Test.YtgipepjpkmlmaaaQR17
namespace Go.Proofs.Ytgipepjpkmlmaaa.P
open Go.RowKit Go.Proofs.YtgipepjpkmlmaaaW.PrintWords Go.Proofs.YtgipepjpkmlmaaaW.PrintLast Go.Proofs.YtgipepjpkmlmaaaW.PrintMore
set_option linter.unusedVariables false
set_option linter.unusedSimpArgs false
/-- What the reference's Run leaves; the windows are those handed in, or a row of its own. -/
def RunS (w : World) (A0 : Option Addr) (c0 : Nat) (l0 : List S46) (p : S28 × List S46 × Int) (e : Ending) (w' : World) : Prop :=
  ∃ v4 vo, e = .returned (.tuple #[.agg #[.int .i64 p.1.f0, .int .i64 p.1.f1, .int .i64 p.1.f2, .int .i64 p.1.f3, v4], vo, .int .i64 p.2.2]) ∧ LW 3 w w' A0 c0 l0 v4 p.1.f4 ∧ Kd.R k46 46 w' w.heap.size (fun _ => True) vo p.2.1 ∧ Below w.heap.size w w'
set_option maxHeartbeats 16000000 in
set_option maxRecDepth 100000 in
theorem runS_no (g : S23) (hg : chkG g = false) (B : Option Addr) (nl cl : Nat) (w : World) :
    Calls Try.prog 17 #[gridV g, .agg #[.int .i64 (-1), .int .i64 0, .int .i64 0, .int .i64 0, .slice none 0 0], .slice B nl cl] w (RunS w none 0 [] (z28, [], 1)) := by
  obtain ⟨W4, hW4⟩ : ∃ W, W = (((w.alloc (.cells #[.int .i64 g.f0, .int .i64 g.f1, .int .i64 g.f2] 23)).alloc (.cells #[.int .i64 (-1), .int .i64 0, .int .i64 0, .int .i64 0, .slice none 0 0] 28)).alloc (.cells #[.int .i64 0, .int .i64 0, .int .i64 0, .int .i64 0, .slice none 0 0] 28)) := ⟨_, rfl⟩
  have hge : W4.heap[w.heap.size + 2]? = some (.cells #[.int .i64 0, .int .i64 0, .int .i64 0, .int .i64 0, .slice none 0 0] 28 (0, 0)) := by
    rw [hW4]
    have := heap_alloc_new ((w.alloc (.cells #[.int .i64 g.f0, .int .i64 g.f1, .int .i64 g.f2] 23)).alloc (.cells #[.int .i64 (-1), .int .i64 0, .int .i64 0, .int .i64 0, .slice none 0 0] 28)) (.cells #[.int .i64 0, .int .i64 0, .int .i64 0, .int .i64 0, .slice none 0 0] 28)
    simpa using this
  have hb4 : Below w.heap.size w W4 := by
    rw [hW4]
    exact (((Below.refl _ _).alloc (Nat.le_refl _) _).alloc (by simp) _).alloc (by simp; omega) _
  have HW4 := Lib.hid hW4
  have HGE := Lib.hid hge
  have HB4 := Lib.hid hb4
  have hno : ∀ w, Calls Try.prog 35 #[.agg #[.int .i64 g.f0, .int .i64 g.f1, .int .i64 g.f2], .agg #[.int .i64 (-1), .int .i64 0, .int .i64 0, .int .i64 0, .slice none 0 0]] w fun e w' => e = .returned (.bool false) ∧ Below w.heap.size w w' := fun w => mayR_no g awZ hg none 0 w
  clear hW4 hge hb4
  go_enter Try.func17, Try.ntmps17
  go_wp2_with (first | (go_at_call 35; go_loud (rw [← HW4.out]; (with_reducible refine (hno _).mono ?_); rintro e w1 ⟨rfl, hb1⟩; have he1 := blk_below HGE.out hb1; obtain ⟨z0, z1, z2, z3, z4⟩ := cell5s he1; have y0 := blk_frozen he1 0; have y1 := blk_frozen he1 1; have y2 := blk_frozen he1 2; have y3 := blk_frozen he1 3; have y4 := blk_frozen he1 4; have HE1 := Lib.hid he1; have HB1 := Lib.hid (HB4.out.trans (hb1.mono HB4.out.size)); clear he1 hb1)))
  refine bodyPost_ret (results_ctt rfl _ _ (w.heap.size + 1 + 1) 28 #[.int .i64 0, .int .i64 0, .int .i64 0, .int .i64 0, .slice none 0 0] (0, 0) _ rfl (put5_heap (w := w1) (g := w.heap.size + 1 + 1) HE1.out (.int .i64 0) (.int .i64 0) (.int .i64 0) (.int .i64 0) (.slice none 0 0)) Try.underlying28 rfl (by kernel_rfl)) rfl ?_
  exact ⟨_, _, rfl, LW.nil 3 w _ none 0 [], Kd.R_nil _ _ _ _ _, put5_below (g := w.heap.size + 1 + 1) HB1.out (by omega) _ _ _ _ _⟩
set_option maxHeartbeats 16000000 in
set_option maxRecDepth 100000 in
theorem runS_calls (g : S23) (l : List S50) (s : S28) (hi : InvR g s) (hn : s.f3 + l.length ≤ 1000000) (A B : Option Addr) (c cl : Nat) (w : World) (hr : k46.C w A s.f4.length s.f4) (hc : s.f4.length ≤ c)
    (hB : k50.C w B l.length l) (hcl : l.length ≤ cl) (hll : l.length ≤ 1000) (hown : ∀ k, (Value.slice A s.f4.length c).ownBlock = some k → k < w.heap.size) :
    Calls Try.prog 17 #[gridV g, .agg #[.int .i64 s.f0, .int .i64 s.f1, .int .i64 s.f2, .int .i64 s.f3, .slice A s.f4.length c], .slice B l.length cl] w (RunS w A c s.f4 (runL g l s [])) := by
  obtain ⟨FP, hFP⟩ : ∃ p, runL g l s [] = p := ⟨_, rfl⟩
  rw [hFP]
  obtain ⟨W4, hW4⟩ : ∃ W, W = (((w.alloc (.cells #[.int .i64 g.f0, .int .i64 g.f1, .int .i64 g.f2] 23)).alloc (.cells #[.int .i64 s.f0, .int .i64 s.f1, .int .i64 s.f2, .int .i64 s.f3, .slice A s.f4.length c] 28)).alloc (.cells #[.int .i64 0, .int .i64 0, .int .i64 0, .int .i64 0, .slice none 0 0] 28)) := ⟨_, rfl⟩
  have hgg : W4.heap[w.heap.size]? = some (.cells #[.int .i64 g.f0, .int .i64 g.f1, .int .i64 g.f2] 23 (0, 0)) := by
    rw [hW4, Below.heap_alloc _ _ _ (by simp; omega), Below.heap_alloc _ _ _ (by simp)]
    exact heap_alloc_new _ _
  have hgs : W4.heap[w.heap.size + 1]? = some (.cells #[.int .i64 s.f0, .int .i64 s.f1, .int .i64 s.f2, .int .i64 s.f3, .slice A s.f4.length c] 28 (0, 0)) := by
    rw [hW4, Below.heap_alloc _ _ _ (by simp)]
    have := heap_alloc_new (w.alloc (.cells #[.int .i64 g.f0, .int .i64 g.f1, .int .i64 g.f2] 23)) (.cells #[.int .i64 s.f0, .int .i64 s.f1, .int .i64 s.f2, .int .i64 s.f3, .slice A s.f4.length c] 28)
    simpa using this
  have hge : W4.heap[w.heap.size + 2]? = some (.cells #[.int .i64 0, .int .i64 0, .int .i64 0, .int .i64 0, .slice none 0 0] 28 (0, 0)) := by
    rw [hW4]
    have := heap_alloc_new ((w.alloc (.cells #[.int .i64 g.f0, .int .i64 g.f1, .int .i64 g.f2] 23)).alloc (.cells #[.int .i64 s.f0, .int .i64 s.f1, .int .i64 s.f2, .int .i64 s.f3, .slice A s.f4.length c] 28)) (.cells #[.int .i64 0, .int .i64 0, .int .i64 0, .int .i64 0, .slice none 0 0] 28)
    simpa using this
  have hb4 : Below w.heap.size w W4 := by
    rw [hW4]
    exact (((Below.refl _ _).alloc (Nat.le_refl _) _).alloc (by simp) _).alloc (by simp; omega) _
  have HW4 := Lib.hid hW4
  have HF4 := Lib.hid (show RR w W4 g s.f0 s.f1 s.f2 s.f3 (.slice A s.f4.length c) from ⟨hgg, hgs, hge, hb4⟩)
  have HMAY := Lib.hid (mayR_calls g s hi.inv A c W4 (Kd.C_below hr hb4) hc)
  have HL4 := Lib.hid (show LW 3 w W4 A c s.f4 (.slice A s.f4.length c) s.f4 from ⟨A, c, rfl, hc, .inl ⟨rfl, rfl, rfl, hr, hb4⟩⟩)
  have HFP := Lib.hid hFP
  have HI := Lib.hid hi
  have HBW := Lib.hid hB
  have HN := Lib.hid hn
  have HOWN := Lib.hid hown
  obtain ⟨q0, q1, q2⟩ := cell3s hgg
  obtain ⟨s0, s1, s2, s3, s4⟩ := cell5s hgs
  clear hW4 hgg hgs hge hb4 hFP hi hB hn hr hown
  go_enter Try.func17, Try.ntmps17
  go_upto_region 1 with fail
  rw [← HW4.out]
  go_upto_region 3 with (first | (go_at_call 35; go_loud ((with_reducible refine HMAY.out.mono ?_); rintro e w1 ⟨rfl, hb1⟩; have HB1 := Lib.hid hb1; clear hb1)))
  have HF5 := Lib.hid (HF4.out.below HB1.out)
  have HL5 := Lib.hid (HL4.out.below HB1.out HF4.out.bl.size)
  clear q0 q1 q2 s0 s1 s2 s3 s4
  go_wp2
  go_loopg [9, 10] l.length (fun kq v9 v10 WX => ∃ (i : Nat) (s2 : S28) (all : List S46) (v4 : Value), v10 = .int .i64 (i : Int) ∧ i ≤ l.length ∧ l.length - i ≤ kq ∧ InvR g s2 ∧ s2.f3 + ((l.length - i : Nat) : Int) ≤ 1000000 ∧ runL g (l.drop i) s2 all = FP ∧ RR w WX g s2.f0 s2.f1 s2.f2 s2.f3 v4 ∧ LW 3 w WX A c s.f4 v4 s2.f4 ∧ Kd.R k46 46 WX w.heap.size (fun k => w.heap.size + 3 ≤ k) v9 all ∧ all.length ≤ 1000 * i ∧ (∀ k, v4.ownBlock = some k → w.heap.size + 3 ≤ k → v9.ownBlock ≠ some k))
  case atStart => exact ⟨0, s, [], _, rfl, Nat.zero_le _, by omega, HI.out, by have := HN.out; omega, by rw [List.drop_zero]; exact HFP.out, HF5.out, HL5.out, Kd.R_nil _ _ _ _ _, Nat.zero_le _, (fun k _ _ h => by cases h)⟩
  case round =>
    obtain ⟨i, s2, all, v4, rfl, hil, hik, hi2, hn2, hrun, hF, hL, hRa, hal, hdj⟩ := hrel
    obtain ⟨WX, hWX⟩ : ∃ W, W = wr := ⟨_, rfl⟩
    subst hWX
    by_cases hlt : i < l.length
    rotate_left
    · have d1 : decide ((i : Int) < (l.length : Int)) = false := decide_eq_false (by omega)
      rw [List.drop_eq_nil_of_le (by omega), runL] at hrun
      obtain ⟨A9, c9, rfl, hc9, _⟩ := hL.reads
      obtain ⟨Aa, ca, rfl, hca, _⟩ := Kd.R_reads hRa
      obtain ⟨s0, s1, s2_, s3, s4⟩ := cell5s hF.gs
      obtain ⟨z0, z1, z2, z3, z4⟩ := cell5s hF.ge
      have y0 := blk_frozen hF.ge 0
      have y1 := blk_frozen hF.ge 1
      have y2 := blk_frozen hF.ge 2
      have y3 := blk_frozen hF.ge 3
      have y4 := blk_frozen hF.ge 4
      have HF := Lib.hid hF
      have HL := Lib.hid hL
      have HRA := Lib.hid hRa
      have HRUN := Lib.hid hrun
      clear hF hL hRa hrun hi2 hn2 hal hdj
      go_wp2
      have hp := HRUN.out
      subst hp
      refine bodyPost_ret (results_ctt rfl _ _ (w.heap.size + 1 + 1) 28 #[.int .i64 s2.f0, .int .i64 s2.f1, .int .i64 s2.f2, .int .i64 s2.f3, .slice A9 s2.f4.length c9] (0, 0) _ rfl (put5_heap (w := WX) (g := w.heap.size + 1 + 1) HF.out.ge (.int .i64 s2.f0) (.int .i64 s2.f1) (.int .i64 s2.f2) (.int .i64 s2.f3) (.slice A9 s2.f4.length c9)) Try.underlying28 rfl (by kernel_rfl)) rfl ?_
      refine ⟨_, _, rfl, HL.out.put5 (w.heap.size + 1 + 1) (by omega) (by omega) _ _ _ _ _, R_ok (R_other HRA.out (fun k hk => put5_other (by omega) _ _ _ _ _)) (fun _ _ => trivial), put5_below (g := w.heap.size + 1 + 1) HF.out.bl (by omega) _ _ _ _ _⟩
    have d1 : decide ((i : Int) < (l.length : Int)) = true := decide_eq_true (by omega)
    have hbi : (0 : Int) ≤ (i : Int) ∧ (i : Int) < (l.length : Int) := by omega
    have hwi : IntKind.i64.wrap ((i : Int) + 1) = (i : Int) + 1 := by rw [IntKind.wrap_i64]; omega
    obtain ⟨ad, had, x0, x1, x2⟩ := at_T50 (Kd.C_below HBW.out hF.bl) (i : Int) (by omega) (by omega)
    cases had
    rw [Int.toNat_natCast] at x0 x1 x2
    have hrd : rd_T50 l (i : Int) = l[i] := by simp [rd_T50, List.getD, List.getElem?_eq_getElem hlt]
    rw [List.drop_eq_getElem_cons hlt, ← hrd, runL] at hrun
    obtain ⟨x, hx⟩ : ∃ x, rd_T50 l (i : Int) = x := ⟨_, rfl⟩
    rw [hx] at x0 x1 x2 hrun
    have HDJ0 := Lib.hid hdj
    obtain ⟨A1, c1, rfl, hc1, hC1⟩ := hL.reads
    have hfeed := fun (W : World) (hC : k46.C W A1 s2.f4.length s2.f4) => feedR_calls g s2 x hi2 (by omega) A1 c1 W hC hc1
    have hinv := fun (h0 : (feedP g s2 x).2.2 = 0) => (⟨invR_feed (r := x) hi2 (by omega) h0, feed_n (r := x) hi2.inv h0⟩ : InvR g (feedP g s2 x).1 ∧ (feedP g s2 x).1.f3 ≤ s2.f3 + 1)
    have hfl := (feedP_len (g := g) (s := s2) (r := x) (by have := hi2.inv.len; omega)).2
    obtain ⟨P, hP⟩ : ∃ p, feedP g s2 x = p := ⟨_, rfl⟩
    rw [hP] at hfeed hinv hrun hfl
    obtain ⟨⟨t0, t1, t2, t3, t4⟩, tv, te⟩ := P
    simp only at hfeed hinv hrun hfl
    have HFEED := Lib.hid hfeed
    have HINV := Lib.hid hinv
    have HRUN := Lib.hid hrun
    have HLX := Lib.hid hL
    have HCs := Lib.hid hC1
    have HRR := Lib.hid hF
    have HRA := Lib.hid hRa
    have HSZX := Lib.hid hF.size
    obtain ⟨g0, g1, g2⟩ := cell3s hF.gg
    obtain ⟨b0, b1, b2, b3, b4⟩ := cell5s hF.gs
    have HG0 := Lib.hid g0
    have HG1 := Lib.hid g1
    have HG2 := Lib.hid g2
    have HS0 := Lib.hid b0
    have HS1 := Lib.hid b1
    have HS2 := Lib.hid b2
    have HS3 := Lib.hid b3
    have HS4 := Lib.hid b4
    have HX0 := Lib.hid x0
    have HX1 := Lib.hid x1
    have HX2 := Lib.hid x2
    cases gk with
    | zero => omega
    | succ gk =>
    clear hfeed hinv hrun hL hC1 hF hRa g0 g1 g2 b0 b1 b2 b3 b4 x0 x1 x2 hx hrd hP hi2 hdj
    go_upto_region 7 with fail
    go_cut [11, 12, 13] from 25 to 35 (fun v11 v12 v13 wc => v13 = .int .i64 te ∧ (∃ gt v4, v11 = .pointer (some ⟨gt, 0, none⟩) ∧ wc.heap[gt]? = some (.cells #[.int .i64 t0, .int .i64 t1, .int .i64 t2, .int .i64 t3, v4] 28 (0, 0)) ∧ LW 3 w wc A c s.f4 v4 t4 ∧ (v4 = .slice A1 s2.f4.length c1 ∨ ∀ k, v4.ownBlock = some k → WX.heap.size ≤ k)) ∧ (∃ Ao co, v12 = .slice Ao tv.length co ∧ Kd.R k46 46 wc WX.heap.size (fun _ => True) (.slice Ao tv.length co) tv) ∧ Below WX.heap.size WX wc)
    case first =>
      refine wp_region_held_drew (S := fun w_ => Below WX.heap.size WX w_) (by kernel_rfl) (below_drew (Below.refl _ _)) (fun hS_ => ?_)
      have hS : Below WX.heap.size WX _ := hS_
      clear hS_
      change wpAnyH _ _ _ _ _ 15 #[false, false, false, false, false, false, false, false, false, false, false, false, false, false, false] _ _
      refine takeE 0 (some 26) #[true, false, false, false, false, false, false, false, false, false, false, false, false, false, false] hS ?_ (hy := fun w_ hS_ => by (replace hS_ : Below WX.heap.size WX w_ := hS_); have a0_ := below_cell hS_ HG0.out; have a1_ := below_cell hS_ HG1.out; have a2_ := below_cell hS_ HG2.out; go_simp <;> with_reducible rfl)
      refine takeE 1 (some 27) #[true, true, false, false, false, false, false, false, false, false, false, false, false, false, false] hS ?_ (hy := fun w_ hS_ => by (replace hS_ : Below WX.heap.size WX w_ := hS_); have b0_ := below_cell hS_ HS0.out; have b1_ := below_cell hS_ HS1.out; have b2_ := below_cell hS_ HS2.out; have b3_ := below_cell hS_ HS3.out; have b4_ := below_cell hS_ HS4.out; go_simp <;> with_reducible rfl)
      refine takeE 2 (some 28) #[true, true, true, false, false, false, false, false, false, false, false, false, false, false, false] hS ?_
      refine takeE 3 (some 29) #[true, true, true, true, false, false, false, false, false, false, false, false, false, false, false] hS ?_
      refine takeE 4 (some 30) #[true, true, true, true, true, false, false, false, false, false, false, false, false, false, false] hS ?_
      refine takeE 5 (some 31) #[true, true, true, true, true, true, false, false, false, false, false, false, false, false, false] hS ?_ (hy := fun w_ hS_ => by (replace hS_ : Below WX.heap.size WX w_ := hS_); have c0_ := below_cell hS_ HX0.out; have c1_ := below_cell hS_ HX1.out; have c2_ := below_cell hS_ HX2.out; go_simp <;> with_reducible rfl)
      refine doD2 (i := 6) (j := 11) (l2 := #[true, true, true, true, true, true, true, false, false, false, false, false, false, false, false]) (l3 := #[true, true, true, true, true, true, false, false, false, false, false, true, false, false, false]) (by kernel_rfl) rfl rfl (by kernel_rfl) (by kernel_rfl) (by kernel_rfl) (by kernel_rfl) (fun K hK => ?_) (fun K hK => ?_)
      · go_simp
        go_wp2_with (first | (go_at_call 43; go_loud ((with_reducible refine (HFEED.out _ (Kd.C_below HCs.out hS)).mono ?_); have HSS := Lib.hid hS.size; rintro e wr2 ⟨v6, vo, rfl, hlw6, hRo, hb6⟩; obtain ⟨A6, c6, rfl, hc6, _⟩ := hlw6.reads; obtain ⟨Ao, co, rfl, hco, _⟩ := Kd.R_reads hRo; have HLW6 := Lib.hid hlw6; have HR6 := Lib.hid (R_base hRo HSS.out (Nat.le_refl _)); clear hlw6 hRo)))
        refine hK.out _ _ ?_ (fun hS_ => ?_)
        · show Below WX.heap.size WX _
          exact hS.trans (hb6.mono hS.size)
        clear hK K hS
        have hS : Below WX.heap.size WX _ := hS_
        clear hS_
        clear hb6
        refine takeE 7 (some 25) #[true, true, true, true, true, true, true, true, false, false, false, false, false, false, false] hS ?_
        refine takeE 8 (some 33) #[true, true, true, true, true, true, true, true, true, false, false, false, false, false, false] hS ?_
        refine takeE 9 (some 34) #[true, true, true, true, true, true, true, true, true, true, false, false, false, false, false] hS ?_
        refine takeE 10 (some 35) #[true, true, true, true, true, true, true, true, true, true, true, false, false, false, false] hS ?_
        have hSr := Lib.hid hS
        refine doD (i := 11) (ls2 := #[true, true, true, true, true, true, true, true, true, true, true, true, false, false, false]) (by kernel_rfl) rfl (by kernel_rfl) (by kernel_rfl) (fun K hK => ?_)
        go_simp
        refine hK.out _ _ ?_ (fun hS_ => ?_)
        · show Below WX.heap.size WX _
          exact hS.alloc hS.size _
        clear hK K hS
        have hS : Below WX.heap.size WX _ := hS_
        clear hS_
        refine doD (i := 12) (ls2 := #[true, true, true, true, true, true, true, true, true, true, true, true, true, false, false]) (by kernel_rfl) rfl (by kernel_rfl) (by kernel_rfl) (fun K hK => ?_)
        go_simp
        refine hK.out _ _ ?_ (fun hS_ => ?_)
        · show Below WX.heap.size WX _
          exact (hSr.out).alloc hSr.out.size _
        clear hK K hS
        have hS : Below WX.heap.size WX _ := hS_
        clear hS_
        refine takeE 13 (some 12) #[true, true, true, true, true, true, true, true, true, true, true, true, true, true, false] hS ?_
        refine takeE 14 (some 13) #[true, true, true, true, true, true, true, true, true, true, true, true, true, true, true] hS ?_
        refine wpAnyH_done (by kernel_rfl) ?_ _
        go_wp2
        go_meet
        case rel =>
          have h4 := LW.step2 HLX.out hS HLW6.out (fun vr h => Kd.R_below h ((Below.refl _ _).alloc (Nat.le_refl _) (.cells #[.int .i64 t0, .int .i64 t1, .int .i64 t2, .int .i64 t3, .slice A6 t4.length c6] 28))) HSZX.out HSS.out
          have h6 := R_ok (ok2 := fun _ => True) (Kd.R_below HR6.out ((Below.refl _ _).alloc (Nat.le_refl _) (.cells #[.int .i64 t0, .int .i64 t1, .int .i64 t2, .int .i64 t3, .slice A6 t4.length c6] 28))) (fun _ _ => trivial)
          exact ⟨rfl, ⟨_, _, rfl, heap_alloc_new _ _, h4⟩, ⟨_, _, rfl, h6⟩, hS⟩
      · have hgbl := Lib.hid hS.size
        go_simp
        refine hK.out _ _ ?_ (fun hS_ => ?_)
        · show Below WX.heap.size WX _
          exact hS.alloc hS.size _
        clear hK K hS
        have hS : Below WX.heap.size WX _ := hS_
        clear hS_
        have HGB := hgbl
        clear hgbl
        refine doD (i := 6) (ls2 := #[true, true, true, true, true, true, true, false, false, false, false, true, false, false, false]) (by kernel_rfl) rfl (by kernel_rfl) (by kernel_rfl) (fun K hK => ?_)
        go_simp
        go_wp2_with (first | (go_at_call 43; go_loud ((with_reducible refine (HFEED.out _ (Kd.C_below HCs.out hS)).mono ?_); have hz0 := blk_drew (heap_alloc_new WX (.cells #[.int .i64 0, .int .i64 0, .int .i64 0, .int .i64 0, .slice none 0 0] 28)); have HZ := Lib.hid hz0; clear hz0; have HSS := Lib.hid hS.size; rintro e wr2 ⟨v6, vo, rfl, hlw6, hRo, hb6⟩; obtain ⟨A6, c6, rfl, hc6, _⟩ := hlw6.reads; obtain ⟨Ao, co, rfl, hco, _⟩ := Kd.R_reads hRo; have HLW6 := Lib.hid hlw6; have HR6 := Lib.hid (R_base hRo HSS.out (Nat.le_refl _)); have HZL := Lib.hid (lt_of_block HZ.out); have hz6 := blk_below HZ.out hb6; have z0_ : wr2.cell? ⟨_, 0, none⟩ = some (.int .i64 0) := (blk_cell hz6 0).trans rfl; have z1_ : wr2.cell? ⟨_, 1, none⟩ = some (.int .i64 0) := (blk_cell hz6 1).trans rfl; have z2_ : wr2.cell? ⟨_, 2, none⟩ = some (.int .i64 0) := (blk_cell hz6 2).trans rfl; have z3_ : wr2.cell? ⟨_, 3, none⟩ = some (.int .i64 0) := (blk_cell hz6 3).trans rfl; have z4_ : wr2.cell? ⟨_, 4, none⟩ = some (.slice none 0 0) := (blk_cell hz6 4).trans rfl; have y0_ : wr2.frozen? ⟨_, 0, none⟩ = false := blk_frozen hz6 0; have y1_ : wr2.frozen? ⟨_, 1, none⟩ = false := blk_frozen hz6 1; have y2_ : wr2.frozen? ⟨_, 2, none⟩ = false := blk_frozen hz6 2; have y3_ : wr2.frozen? ⟨_, 3, none⟩ = false := blk_frozen hz6 3; have y4_ : wr2.frozen? ⟨_, 4, none⟩ = false := blk_frozen hz6 4; replace HZ := Lib.hid hz6; clear hz6; clear hlw6 hRo)))
        refine hK.out _ _ ?_ (fun hS_ => ?_)
        · show Below WX.heap.size WX _
          exact hS.trans (hb6.mono hS.size)
        clear hK K hS
        have hS : Below WX.heap.size WX _ := hS_
        clear hS_
        clear hb6
        refine takeE 7 (some 25) #[true, true, true, true, true, true, true, true, false, false, false, true, false, false, false] hS ?_
        refine takeE 8 (some 33) #[true, true, true, true, true, true, true, true, true, false, false, true, false, false, false] hS ?_
        refine takeE 9 (some 34) #[true, true, true, true, true, true, true, true, true, true, false, true, false, false, false] hS ?_
        refine takeE 10 (some 35) #[true, true, true, true, true, true, true, true, true, true, true, true, false, false, false] hS ?_
        refine doD (i := 12) (ls2 := #[true, true, true, true, true, true, true, true, true, true, true, true, true, false, false]) (by kernel_rfl) rfl (by kernel_rfl) (by kernel_rfl) (fun K hK => ?_)
        go_simp
        refine hK.out _ _ ?_ (fun hS_ => ?_)
        · show Below WX.heap.size WX _
          exact put5_belowZ hS HZ.out (by have h0 := HGB.out; first | omega | (simp at h0; omega)) (.int .i64 t0) (.int .i64 t1) (.int .i64 t2) (.int .i64 t3) (.slice A6 t4.length c6)
        clear hK K hS
        have hS : Below WX.heap.size WX _ := hS_
        clear hS_
        refine takeE 13 (some 12) #[true, true, true, true, true, true, true, true, true, true, true, true, true, true, false] hS ?_
        refine takeE 14 (some 13) #[true, true, true, true, true, true, true, true, true, true, true, true, true, true, true] hS ?_
        refine wpAnyH_done (by kernel_rfl) ?_ _
        go_wp2
        go_meet
        case rel =>
          have h4 := LW.step2 HLX.out hS HLW6.out (fun vr h => R_other h (fun k hk => put5_otherZ HZ.out (by have := HZL.out; omega) (.int .i64 t0) (.int .i64 t1) (.int .i64 t2) (.int .i64 t3) (.slice A6 t4.length c6))) HSZX.out HSS.out
          have h6 := R_ok (ok2 := fun _ => True) (R_other HR6.out (fun k hk => put5_otherZ HZ.out (by have := HZL.out; omega) (.int .i64 t0) (.int .i64 t1) (.int .i64 t2) (.int .i64 t3) (.slice A6 t4.length c6))) (fun _ _ => trivial)
          exact ⟨rfl, ⟨_, _, rfl, put5_heap HZ.out (.int .i64 t0) (.int .i64 t1) (.int .i64 t2) (.int .i64 t3) (.slice A6 t4.length c6), h4⟩, ⟨_, _, rfl, h6⟩, hS⟩
    case rest =>
      obtain ⟨rfl, ⟨gt, v4, rfl, hgt, hL2, hfr⟩, ⟨Ao, co, rfl, hRo⟩, hbw⟩ := hcut
      have hF2 := HRR.out.below hbw
      have hRa2 := Kd.R_below HRA.out hbw
      by_cases he : te = 0
      rotate_left
      · have hde : (te == 0) = false := beq_eq_false_iff_ne.2 he
        have hrun := HRUN.out
        rw [if_neg he] at hrun
        obtain ⟨z0, z1, z2, z3, z4⟩ := cell5s hF2.ge
        have y0 := blk_frozen hF2.ge 0
        have y1 := blk_frozen hF2.ge 1
        have y2 := blk_frozen hF2.ge 2
        have y3 := blk_frozen hF2.ge 3
        have y4 := blk_frozen hF2.ge 4
        have HF2 := Lib.hid hF2
        have HRUN2 := Lib.hid hrun
        clear hrun hF2 hRa2 hbw hRo hL2 hgt hfr hal
        go_wp2
        have hp := HRUN2.out
        subst hp
        refine bodyPost_ret (results_ctt rfl _ _ (w.heap.size + 1 + 1) 28 #[.int .i64 0, .int .i64 0, .int .i64 0, .int .i64 0, .slice none 0 0] (0, 0) _ rfl (put5_heap (w := wc) (g := w.heap.size + 1 + 1) HF2.out.ge (.int .i64 0) (.int .i64 0) (.int .i64 0) (.int .i64 0) (.slice none 0 0)) Try.underlying28 rfl (by kernel_rfl)) rfl ?_
        exact ⟨_, _, rfl, LW.nil 3 w _ A c s.f4, Kd.R_nil _ _ _ _ _, put5_below (g := w.heap.size + 1 + 1) HF2.out.bl (by omega) _ _ _ _ _⟩
      subst he
      obtain ⟨hi3, hn3⟩ := HINV.out rfl
      have hrun := HRUN.out
      rw [if_pos rfl] at hrun
      have hdj2 : ∀ k, v4.ownBlock = some k → w.heap.size + 3 ≤ k → u9.ownBlock ≠ some k := by
        intro k hk hk3
        rcases hfr with e | e
        · rw [e] at hk
          exact HDJ0.out k hk hk3
        · have hkw := e k hk
          intro h9
          rcases (own_of_R HRA.out).2 with ⟨e2, _⟩ | ⟨g9, cap, cur, e2, h1, h3, _⟩
          · rw [e2] at h9; cases h9
          · rw [e2] at h9
            have : g9 = k := by simpa [Value.ownBlock] using h9
            have := lt_of_block h3
            omega
      obtain ⟨A2, c2, rfl, hc2, _⟩ := hL2.reads
      obtain ⟨Aa, ca, rfl, hca, _⟩ := Kd.R_reads hRa2
      obtain ⟨p0, p1, p2, p3, p4⟩ := cell5s hgt
      obtain ⟨z0, z1, z2, z3, z4⟩ := cell5s hF2.gs
      have y0 := blk_frozen hF2.gs 0
      have y1 := blk_frozen hF2.gs 1
      have y2 := blk_frozen hF2.gs 2
      have y3 := blk_frozen hF2.gs 3
      have y4 := blk_frozen hF2.gs 4
      have HF2 := Lib.hid hF2
      have HL2 := Lib.hid hL2
      have HRA2 := Lib.hid hRa2
      have HRO2 := Lib.hid (R_base hRo (Nat.le_trans (by omega) HSZX.out) (Nat.le_refl _) : Kd.R k46 46 wc w.heap.size (fun k => WX.heap.size ≤ k) (.slice Ao tv.length co) tv)
      have HRUN3 := Lib.hid hrun
      have HDJ := Lib.hid hdj2
      have HI3 := Lib.hid hi3
      have HN4 := Lib.hid (show t3 + ((l.length - (i + 1) : Nat) : Int) ≤ 1000000 by omega)
      have HAL := Lib.hid (show (all.length + tv.length) * 96 ≤ 140737488355328 by omega)
      have HAL2 := Lib.hid (show all.length + tv.length ≤ 1000 * (i + 1) by omega)
      clear hrun hF2 hRa2 hbw hRo hL2 hgt hfr hi3 hn3 hn2 hdj2 hal hfl
      go_upto_region 11 with fail
      change Code.wp _ _ _ _ (put5 wc (w.heap.size + 1) (.int .i64 t0) (.int .i64 t1) (.int .i64 t2) (.int .i64 t3) (.slice A2 t4.length c2))
      obtain ⟨W10, hW10⟩ : ∃ W, W = put5 wc (w.heap.size + 1) (.int .i64 t0) (.int .i64 t1) (.int .i64 t2) (.int .i64 t3) (.slice A2 t4.length c2) := ⟨_, rfl⟩
      have hF10 : RR w W10 g t0 t1 t2 t3 (.slice A2 t4.length c2) := by rw [hW10]; exact HF2.out.put
      have hL10 : LW 3 w W10 A c s.f4 (.slice A2 t4.length c2) t4 := by rw [hW10]; exact HL2.out.put5 _ (by omega) (by omega) _ _ _ _ _
      have hRA10 : Kd.R k46 46 W10 w.heap.size (fun k => w.heap.size + 3 ≤ k) (.slice Aa all.length ca) all := by rw [hW10]; exact R_other HRA2.out (fun k hk => put5_other (by omega) _ _ _ _ _)
      have hRO10 : Kd.R k46 46 W10 w.heap.size (fun k => WX.heap.size ≤ k) (.slice Ao tv.length co) tv := by rw [hW10]; exact R_other HRO2.out (fun k hk => put5_other (by have := HSZX.out; omega) _ _ _ _ _)
      rw [← hW10]
      have HF10 := Lib.hid hF10
      have HL10 := Lib.hid hL10
      have HRA10 := Lib.hid hRA10
      have HC10 := Lib.hid (Kd.R_reads' hRO10).2.2
      clear hW10 hF10 hL10 hRA10 hRO10 p0 p1 p2 p3 p4 z0 z1 z2 z3 z4 y0 y1 y2 y3 y4 hca
      go_wp2_with (first | ((with_reducible refine gate_builtin (b := .append) (xs := #[.tmp 41, .tmp 42]) rfl ?_); (try (refine gate_guard (by rfl) ?_; dsimp only)); at_builtin; refine Kd.R_append_rows k46 (w0 := w) w.heap.size rfl (.tmp 41) (.tmp 42) 26 46 (.agg #[(.int .i64 0), (.int .i64 0), (.int .i64 0), (.int .i64 0), (.int .i64 0), (.int .i64 0), (.int .i64 0), (.int .i64 0), (.int .i64 0), (.int .i64 0), (.int .i64 0), (.int .i64 0)]) 96 rfl Try.underlying26 info46 rfl (by decide) (by omega) (.slice Aa all.length ca) all tv _ _ _ (fun k => w.heap.size + 3 ≤ k) (fun _ => False) rfl rfl HRA10.out HC10.out (fun _ _ h => by obtain rfl := k46_open h; exact k46_mkM _ _ _ _) (fun _ h => h.elim) (fun k hk => Nat.le_trans HF10.out.size hk) HF10.out.bl HF10.out.bl.size ?aL ?_; (case aL => have h_ := HAL.out; omega); intro v8 w8 hR8 hb8 hg8 hat8; have HR8 := Lib.hid hR8; have HB8 := Lib.hid hb8; have HG8 := Lib.hid hg8; have HAT8 := Lib.hid hat8; clear hR8 hb8 hg8 hat8))
      go_roundg gk
      case measure => omega
      case rel =>
        have hne : ∀ b, b < w.heap.size + 3 → some b ≠ (Value.slice Aa all.length ca).ownBlock := fun b hb h => by have h2 : w.heap.size + 3 ≤ b := HRA10.out.1 b h.symm; omega
        have hF8 : RR w w8 g t0 t1 t2 t3 (.slice A2 t4.length c2) := ⟨blk_grown HF10.out.gg HG8.out (hne _ (by omega)), blk_grown HF10.out.gs HG8.out (hne _ (by omega)), blk_grown HF10.out.ge HG8.out (hne _ (by omega)), HB8.out⟩
        refine ⟨i + 1, ⟨t0, t1, t2, t3, t4⟩, all ++ tv, _, by first | rfl | (congr 1), by omega, by omega, HI3.out, HN4.out, HRUN3.out, hF8, HL10.out.keep HB8.out HG8.out HDJ.out, HR8.out, by rw [List.length_append]; exact HAL2.out, fun k hk hk3 => ?_⟩
        rcases HAT8.out with e | ⟨b, e, hb⟩
        · rw [e]
          exact HDJ.out k hk hk3
        · rw [e]
          intro h2
          have hbk : b = k := Option.some.inj h2
          rcases HL10.out.lt k hk hk3 with h | ev
          · omega
          · rw [ev] at hk
            have := HOWN.out k hk
            omega
end Go.Proofs.Ytgipepjpkmlmaaa.P
