import Derived.Test.YtgipepjpkmlmaaaM6
namespace Go.Proofs.Ytgipepjpkmlmaaa.P
open Go.RowKit Go.Proofs.YtgipepjpkmlmaaaW.PrintWords Go.Proofs.YtgipepjpkmlmaaaW.PrintLast Go.Proofs.YtgipepjpkmlmaaaW.PrintMore
set_option linter.unusedVariables false
set_option linter.unusedSimpArgs false

theorem laid_flat (xs : List S46) (tl zs : List Value) (i : Nat) (hi : i ≤ xs.length) : laid (flat xs ++ tl) (i * 12) zs = flat (xs.take i) ++ (zs ++ (flat xs ++ tl).drop (i * 12 + zs.length)) := by
  unfold laid
  rw [List.take_append_of_le_length (by rw [flat_length]; omega), ← flat_take, List.append_assoc]
def putC (w : World) (gr n : Nat) (v : S46) : World := (((((((((((w.setCell ⟨gr, n, none⟩ (.int .i64 v.f0)).setCell ⟨gr, n + 1, none⟩ (.int .i64 v.f1)).setCell ⟨gr, n + 2, none⟩ (.int .i64 v.f2.f0)).setCell ⟨gr, n + 3, none⟩ (.int .i64 v.f2.f1)).setCell ⟨gr, n + 4, none⟩ (.int .i64 v.f2.f2)).setCell ⟨gr, n + 5, none⟩ (.int .i64 v.f2.f3)).setCell ⟨gr, n + 6, none⟩ (.int .i64 v.f2.f4.f0)).setCell ⟨gr, n + 7, none⟩ (.int .i64 v.f2.f4.f1)).setCell ⟨gr, n + 8, none⟩ (.int .i64 v.f2.f4.f2)).setCell ⟨gr, n + 9, none⟩ (.int .i64 v.f2.f4.f3)).setCell ⟨gr, n + 10, none⟩ (.int .i64 v.f2.f5)).setCell ⟨gr, n + 11, none⟩ (.int .i64 v.f2.f6)
theorem putC_heap {w : World} {gr : Nat} {l : List S46} {tl : List Value} (hg : w.heap[gr]? = some (.cells (flat l ++ tl).toArray 46 (0, 0))) (I : Nat) (hI : I < l.length) (v : S46) :
    (putC w gr (I * 12) v).heap[gr]? = some (.cells (flat (l.set I v) ++ tl).toArray 46 (0, 0)) := by
  have hP : (flat (l.take I)).length = I * 12 := by rw [flat_length, List.length_take, Nat.min_eq_left (by omega)]
  rw [flat_at l I hI tl] at hg
  rw [set_at l I hI]
  unfold putC
  have g0 := hg
  have g1 := blk_put g0 (I * 12) (.int .i64 v.f0) (set_mid _ _ _ 0 _ _ (by omega) (by simp [c12]))
  have g2 := blk_put g1 (I * 12 + 1) (.int .i64 v.f1) (set_mid _ _ _ 1 _ _ (by omega) (by simp [c12]))
  have g3 := blk_put g2 (I * 12 + 2) (.int .i64 v.f2.f0) (set_mid _ _ _ 2 _ _ (by omega) (by simp [c12]))
  have g4 := blk_put g3 (I * 12 + 3) (.int .i64 v.f2.f1) (set_mid _ _ _ 3 _ _ (by omega) (by simp [c12]))
  have g5 := blk_put g4 (I * 12 + 4) (.int .i64 v.f2.f2) (set_mid _ _ _ 4 _ _ (by omega) (by simp [c12]))
  have g6 := blk_put g5 (I * 12 + 5) (.int .i64 v.f2.f3) (set_mid _ _ _ 5 _ _ (by omega) (by simp [c12]))
  have g7 := blk_put g6 (I * 12 + 6) (.int .i64 v.f2.f4.f0) (set_mid _ _ _ 6 _ _ (by omega) (by simp [c12]))
  have g8 := blk_put g7 (I * 12 + 7) (.int .i64 v.f2.f4.f1) (set_mid _ _ _ 7 _ _ (by omega) (by simp [c12]))
  have g9 := blk_put g8 (I * 12 + 8) (.int .i64 v.f2.f4.f2) (set_mid _ _ _ 8 _ _ (by omega) (by simp [c12]))
  have g10 := blk_put g9 (I * 12 + 9) (.int .i64 v.f2.f4.f3) (set_mid _ _ _ 9 _ _ (by omega) (by simp [c12]))
  have g11 := blk_put g10 (I * 12 + 10) (.int .i64 v.f2.f5) (set_mid _ _ _ 10 _ _ (by omega) (by simp [c12]))
  have g12 := blk_put g11 (I * 12 + 11) (.int .i64 v.f2.f6) (set_mid _ _ _ 11 _ _ (by omega) (by simp [c12]))
  exact g12
theorem putC_below {B gr n : Nat} {w0 w : World} (h : Below B w0 w) (hg : B ≤ gr) (v : S46) : Below B w0 (putC w gr n v) := by
  unfold putC
  exact ((((((((((((h.setCell hg _).setCell hg _).setCell hg _).setCell hg _).setCell hg _).setCell hg _).setCell hg _).setCell hg _).setCell hg _).setCell hg _).setCell hg _).setCell hg _)
theorem putC_other {w : World} {gr n k : Nat} (h : k ≠ gr) (v : S46) : (putC w gr n v).heap[k]? = w.heap[k]? := by
  unfold putC
  simp only [heap_setCell_other _ (⟨gr, n, none⟩ : Addr) k _ h, heap_setCell_other _ (⟨gr, n + 1, none⟩ : Addr) k _ h, heap_setCell_other _ (⟨gr, n + 2, none⟩ : Addr) k _ h, heap_setCell_other _ (⟨gr, n + 3, none⟩ : Addr) k _ h, heap_setCell_other _ (⟨gr, n + 4, none⟩ : Addr) k _ h, heap_setCell_other _ (⟨gr, n + 5, none⟩ : Addr) k _ h, heap_setCell_other _ (⟨gr, n + 6, none⟩ : Addr) k _ h, heap_setCell_other _ (⟨gr, n + 7, none⟩ : Addr) k _ h, heap_setCell_other _ (⟨gr, n + 8, none⟩ : Addr) k _ h, heap_setCell_other _ (⟨gr, n + 9, none⟩ : Addr) k _ h, heap_setCell_other _ (⟨gr, n + 10, none⟩ : Addr) k _ h, heap_setCell_other _ (⟨gr, n + 11, none⟩ : Addr) k _ h]
theorem Over.other {w w' : World} {B go gr : Nat} {lo : List S46} (h : Over w B go lo) (hgr : gr < B) (ho : ∀ k, k ≠ gr → w'.heap[k]? = w.heap[k]?) : Over w' B go lo := by
  obtain ⟨h1, vo, h2, h3⟩ := h
  refine ⟨h1, vo, (ho go (by omega)).trans h2, R_of_own ⟨(own_of_R h3).1, ?_⟩ h3.1⟩
  rcases (own_of_R h3).2 with e | ⟨g, cap, cur, e, q1, q2, q3⟩
  · exact .inl e
  · exact .inr ⟨g, cap, cur, e, q1, (ho g (by omega)).trans q2, q3⟩
theorem putC_size (w : World) (gr n : Nat) (v : S46) : (putC w gr n v).heap.size = w.heap.size := by
  unfold putC
  simp
theorem filt_take (p : S46 → Bool) (l : List S46) (j : Nat) (hj : j < l.length) (v : S46) (hv : l[j] = v) : (l.take (j + 1)).filter p = (l.take j).filter p ++ if p v = true then [v] else [] := by
  rw [List.take_add_one, List.getElem?_eq_getElem hj, hv, List.filter_append]
  congr 1
  cases h : p v <;> simp [h]
set_option maxHeartbeats 16000000 in
set_option maxRecDepth 100000 in
theorem delete2_calls (g : S23) (mark : Int) (gg gs go B B0 : Nat) (w0 w : World) (ok : Nat → Prop) (A : Option Addr) (c : Nat) (l lo : List S46) (hs : Sees w gg gs g mark) (hgg : gg < B) (hgs : gs < B) (hov : Over w B go lo) (hlo : lo.length ≤ 1000) (hB0 : B0 ≤ B)
    (hR : Kd.R k46 46 w B0 ok (.slice A l.length c) l) (hrb : ∀ k, (Value.slice A l.length c).ownBlock = some k → k < B ∧ k ≠ gg ∧ k ≠ gs) (hB : Below B0 w0 w) (hl : l.length ≤ 1000) :
    Calls Try.prog 58 #[.slice A l.length c, .func (.func 59) #[] #[.pointer (some ⟨gg, 0, none⟩), .pointer (some ⟨gs, 0, none⟩), .pointer (some ⟨go, 0, none⟩)]] w fun e w' => ∃ v', e = .returned v' ∧ Kd.R k46 46 w' B0 ok v' (l.filter (fun c => !closedP g c.f1 mark)) ∧ Over w' B go (lo ++ l.filter (fun c => closedP g c.f1 mark)) ∧ Below B0 w0 w' ∧ (∀ k, k < B → (Value.slice A l.length c).ownBlock ≠ some k → w'.heap[k]? = w.heap[k]?) := by
  have hgo : go < w.heap.size := by obtain ⟨_, vo, h2, _⟩ := hov; exact lt_of_block h2
  have hBg := hov.lt
  have hBw : B ≤ w.heap.size := by omega
  have hc : l.length ≤ c := (Kd.R_reads' hR).2.1
  obtain ⟨gr, tl0, hrow⟩ : ∃ gr tl, 0 < l.length → A = some ⟨gr, 0, none⟩ ∧ B0 ≤ gr ∧ ok gr ∧ c ≤ maxLen ∧ tl.length = c * 12 - l.length * 12 ∧ w.heap[gr]? = some (.cells (flat l ++ tl).toArray 46 (0, 0)) := by
    by_cases h0 : 0 < l.length
    · obtain ⟨gr, c', tl, e, h1, h2, h3, h4, h5, h6⟩ := row46 hR h0
      cases e
      exact ⟨gr, tl, fun _ => ⟨rfl, h1, h2, h4, h5, h6⟩⟩
    · exact ⟨0, [], fun h => absurd h h0⟩
  have hgrB : 0 < l.length → gr < B ∧ gr ≠ gg ∧ gr ≠ gs := fun h => by
    obtain ⟨rfl, _⟩ := hrow h
    exact hrb gr rfl
  have hidx := idx2_calls g mark gg gs go B gr A c l lo tl0 w hs hgg hgs hov (by omega) (fun h => ⟨(hrow h).1, (hgrB h).1, (hrow h).2.2.2.2.2⟩) hc (by omega)
  rcases clC_spec (fun c => closedP g c.f1 mark) l l.length 0 (by omega) (by simp) with ⟨e1, e2⟩ | ⟨m, e1, hm, e2, e3⟩
  · rw [e1, show ovC l (-1) = [] from rfl, List.append_nil] at hidx
    have e4 : l.filter (fun c => closedP g c.f1 mark) = [] := by
      rw [List.filter_eq_nil_iff]
      intro x hx
      have := List.filter_eq_self.1 e2 x hx
      simpa using this
    obtain ⟨KL, hKL⟩ : ∃ KL, l.filter (fun c => closedP g c.f1 mark) = KL := ⟨_, rfl⟩
    obtain ⟨KO, hKO⟩ : ∃ KO, l.filter (fun c => !closedP g c.f1 mark) = KO := ⟨_, rfl⟩
    have hKO2 : KO = l := hKO.symm.trans e2
    have hKL2 : KL = [] := hKL.symm.trans e4
    rw [hKL, hKO]
    have HR := Lib.hid hR
    have HKO := Lib.hid hKO2
    have HKL := Lib.hid hKL2
    clear hR e1 e2 e4 hrow hgrB hov hKO hKL hKO2 hKL2
    go_enter Try.func58, Try.ntmps58
    go_wp2_with (first | (go_at_call 87; go_loud ((with_reducible refine hidx.mono ?_); rintro e w1 ⟨rfl, hv1, hb1⟩; have HV1 := Lib.hid hv1; clear hv1)))
    go_ret
    refine ⟨_, rfl, ?_, ?_, hB.trans (hb1.mono hB0), fun k hk _ => hb1.block k hk⟩
    · rw [HKO.out]
      refine R_of_own ⟨(own_of_R HR.out).1, ?_⟩ HR.out.1
      rcases (own_of_R HR.out).2 with e | ⟨gq, cap, cur, e, q1, q2, q3⟩
      · exact .inl e
      · exact .inr ⟨gq, cap, cur, e, q1, (hb1.block gq (hrb gq (by rw [e]; rfl)).1).trans q2, q3⟩
    · rw [HKL.out, List.append_nil]
      exact HV1.out
  · rw [e1, show ovC l (m : Int) = [rd_T46 l (m : Int)] from if_neg (by omega)] at hidx
    obtain ⟨rfl, hBr, hokr, hcm, htl0, hg⟩ := hrow (by omega)
    obtain ⟨hgrB', hng, hns⟩ := hgrB (by omega)
    have e5 : (l.take (m + 1)).filter (fun c => closedP g c.f1 mark) = [rd_T46 l (m : Int)] := by
      rw [filt_take _ l m hm _ rfl]
      rw [rd46 l m hm] at e3 ⊢
      rw [if_pos e3]
      have : (l.take m).filter (fun c => closedP g c.f1 mark) = [] := by
        rw [List.filter_eq_nil_iff]
        intro x hx
        have h7 : (l.take m).filter (fun c => !closedP g c.f1 mark) = l.take m := by
          rw [filt_take _ l m hm _ rfl] at e2
          rw [if_neg (by simpa using e3), List.append_nil] at e2
          exact e2
        have := List.filter_eq_self.1 h7 x hx
        simpa using this
      rw [this]
      rfl
    have dm : ((m : Int) == -1) = false := beq_eq_false_iff_ne.2 (by omega)
    obtain ⟨KL, hKL⟩ : ∃ KL, lo ++ l.filter (fun c => closedP g c.f1 mark) = KL := ⟨_, rfl⟩
    obtain ⟨KO, hKO⟩ : ∃ KO, l.filter (fun c => !closedP g c.f1 mark) = KO := ⟨_, rfl⟩
    rw [hKL, hKO]
    have HKL := Lib.hid hKL
    have HKO := Lib.hid hKO
    have HE2 := Lib.hid e2
    have HE5 := Lib.hid e5
    clear hR e1 e2 e3 e5 hrow hgrB hov hKO hKL hrb
    go_enter Try.func58, Try.ntmps58
    go_wp2_with (first | (go_at_call 87; go_loud ((with_reducible refine hidx.mono ?_); rintro e w1 ⟨rfl, hv1, hb1⟩; have HV1 := Lib.hid hv1; clear hv1)))
    have hg1 := (hb1.block gr hgrB').trans hg
    have hfr1 : ∀ k, k < B → k ≠ gr → w1.heap[k]? = w.heap[k]? := fun k hk _ => hb1.block k hk
    have HF1 := Lib.hid hfr1
    have hB1 : Below B0 w0 w1 := hB.trans (hb1.mono hB0)
    have hs1 := hs.belowB hb1 hgg hgs
    have hsz1 : B ≤ w1.heap.size := Nat.le_trans hBw hb1.size
    clear hidx hg hB hs hb1 hBw hfr1
    go_loopg [5, 6] l.length (fun kq v5 v6 wr => ∃ (i j : Nat) (xs : List S46) (tl : List Value), v5 = .int .i64 (i : Int) ∧ v6 = .int .i64 (j : Int) ∧ i < j ∧ j ≤ l.length ∧ l.length - j ≤ kq ∧ xs.length = l.length ∧ tl.length = c * 12 - l.length * 12 ∧ xs.take i = (l.take j).filter (fun c => !closedP g c.f1 mark) ∧ xs.drop j = l.drop j ∧ wr.heap[gr]? = some (.cells (flat xs ++ tl).toArray 46 (0, 0)) ∧ Over wr B go (lo ++ (l.take j).filter (fun c => closedP g c.f1 mark)) ∧ Below B0 w0 wr ∧ Hid (∀ k, k < B → k ≠ gr → wr.heap[k]? = w.heap[k]?) ∧ Sees wr gg gs g mark ∧ B ≤ wr.heap.size)
    case atStart =>
      refine ⟨m, m + 1, l, tl0, rfl, by first | rfl | (congr 1), by omega, by omega, by omega, rfl, htl0, HE2.out.symm, rfl, hg1, ?_, hB1, HF1, hs1, hsz1⟩
      rw [HE5.out]
      exact HV1.out
    case round =>
      obtain ⟨i, j, xs, tl, rfl, rfl, hij, hjl, hjk, hxl, htl, hxi, hxj, hgw, hov, hBr', HFr, hsr, hszr⟩ := hrel
      clear HV1 HE2 HE5 HF1 hg1 hB1 hs1 hsz1
      by_cases hlt : j < l.length
      rotate_left
      · have d : decide ((j : Int) < (l.length : Int)) = false := decide_eq_false (by omega)
        obtain rfl : j = l.length := by omega
        rw [List.take_length] at hxi hov
        rw [HKO.out] at hxi
        rw [HKL.out] at hov
        have hfit : i * 12 + (l.length - i) * (Value.cells (.agg #[.int .i64 0, .int .i64 0, .int .i64 0, .int .i64 0, .int .i64 0, .int .i64 0, .int .i64 0, .int .i64 0, .int .i64 0, .int .i64 0, .int .i64 0, .int .i64 0])).size ≤ (flat xs ++ tl).toArray.size := by
          have e0 : (Value.cells (.agg #[.int .i64 0, .int .i64 0, .int .i64 0, .int .i64 0, .int .i64 0, .int .i64 0, .int .i64 0, .int .i64 0, .int .i64 0, .int .i64 0, .int .i64 0, .int .i64 0])).size = 12 := rfl
          rw [e0, List.size_toArray, List.length_append, flat_length]
          omega
        have hone : ∀ v ∈ (Builtin.zeroCells (Value.cells (.agg #[.int .i64 0, .int .i64 0, .int .i64 0, .int .i64 0, .int .i64 0, .int .i64 0, .int .i64 0, .int .i64 0, .int .i64 0, .int .i64 0, .int .i64 0, .int .i64 0])) (l.length - i)).toList, v.oneCell' = true := by
          intro v hv
          simp [Builtin.zeroCells, Value.cells] at hv
          obtain ⟨a, ha, rfl⟩ := hv
          have h12 : a % 12 < 12 := Nat.mod_lt _ (by omega)
          revert h12
          generalize a % 12 = q
          intro h12
          rcases (by omega : q = 0 ∨ q = 1 ∨ q = 2 ∨ q = 3 ∨ q = 4 ∨ q = 5 ∨ q = 6 ∨ q = 7 ∨ q = 8 ∨ q = 9 ∨ q = 10 ∨ q = 11) with rfl | rfl | rfl | rfl | rfl | rfl | rfl | rfl | rfl | rfl | rfl | rfl <;> rfl
        have hclr : ∀ ty, (Builtin.clear_ #[26] ty #[.slice (some ⟨gr, i * 12, none⟩) (l.length - i) (c - i)]).run Try.prog wr = .ok (.tuple #[]) (wr.setRow gr (laid (flat xs ++ tl) (i * 12) (Builtin.zeroCells (Value.cells (.agg #[.int .i64 0, .int .i64 0, .int .i64 0, .int .i64 0, .int .i64 0, .int .i64 0, .int .i64 0, .int .i64 0, .int .i64 0, .int .i64 0, .int .i64 0, .int .i64 0])) (l.length - i)).toList).toArray) := fun ty =>
          run_clear_k wr 26 46 ty (.agg #[.int .i64 0, .int .i64 0, .int .i64 0, .int .i64 0, .int .i64 0, .int .i64 0, .int .i64 0, .int .i64 0, .int .i64 0, .int .i64 0, .int .i64 0, .int .i64 0]) Try.underlying26 (fun w => by kernel_rfl) gr (i * 12) (l.length - i) (c - i) (flat xs ++ tl).toArray 46 hgw hfit hone
        obtain ⟨ZS, hZS⟩ : ∃ ZS, ZS = (Builtin.zeroCells (Value.cells (.agg #[.int .i64 0, .int .i64 0, .int .i64 0, .int .i64 0, .int .i64 0, .int .i64 0, .int .i64 0, .int .i64 0, .int .i64 0, .int .i64 0, .int .i64 0, .int .i64 0])) (l.length - i)).toList := ⟨_, rfl⟩
        have hzl : ZS.length = (l.length - i) * 12 := by rw [hZS, Array.length_toList, zc_size]; rfl
        rw [← hZS, laid_flat xs tl ZS i (by omega), hxi] at hclr
        obtain ⟨W2, hW2⟩ : ∃ W2, W2 = wr.setRow gr (flat KO ++ (ZS ++ (flat xs ++ tl).drop (i * 12 + ZS.length))).toArray := ⟨_, rfl⟩
        have hg2 : W2.heap[gr]? = some (.cells (flat KO ++ (ZS ++ (flat xs ++ tl).drop (i * 12 + ZS.length))).toArray 46 (0, 0)) := by rw [hW2]; exact setRow_heap _ _ _ _ _ _ hgw
        have hoth : ∀ k, k ≠ gr → W2.heap[k]? = wr.heap[k]? := fun k hk => by rw [hW2]; exact setRow_other _ _ _ _ hk
        have hB2 : Below B0 w0 W2 := by rw [hW2]; exact below_setRow hBr' hBr _
        have hKl : KO.length = i := by rw [← hxi, List.length_take]; omega
        have hR2 : Kd.R k46 46 W2 B0 ok (.slice (some ⟨gr, 0, none⟩) i c) KO := by
          have := row46_mk (l := KO) (c := c) hBr hokr (by omega) hcm (by rw [List.length_append, List.length_drop, List.length_append, flat_length, hzl, hKl]; omega) hg2
          rwa [hKl] at this
        have hV2 := hov.other hgrB' hoth
        have hF2 : ∀ k, k < B → k ≠ gr → W2.heap[k]? = w.heap[k]? := fun k h1 h2 => (hoth k h2).trans (HFr.out k h1 h2)
        have HR2 := Lib.hid hR2
        have HB2 := Lib.hid hB2
        have HV2 := Lib.hid hV2
        have HF2 := Lib.hid hF2
        rw [← hW2] at hclr
        have hci : ¬ c = i := by omega
        have hb3 : (0 : Int) ≤ (i : Int) ∧ (i : Int) ≤ (l.length : Int) := by omega
        have hb4 : (0 : Int) ≤ (i : Int) ∧ (i : Int) ≤ (c : Int) := by omega
        clear hR2 hB2 hV2 hF2 hKl hoth hg2 hW2 hzl hZS hfit hone hgw hov HFr hsr hxi hxj
        go_wp2
        go_ret
        refine ⟨_, rfl, HR2.out, HV2.out, HB2.out, fun k hk hne => HF2.out k hk (fun e => hne (by rw [e]; rfl))⟩
      have d : decide ((j : Int) < (l.length : Int)) = true := decide_eq_true (by omega)
      cases gk with
      | zero => omega
      | succ gk =>
      obtain ⟨v, hv⟩ : ∃ v, l[j] = v := ⟨_, rfl⟩
      have hxv : rd_T46 xs (j : Int) = v := by
        rw [rd46 xs j (by omega)]
        have h0 : (xs.drop j)[0]? = (l.drop j)[0]? := by rw [hxj]
        rw [List.getElem?_drop, List.getElem?_drop, Nat.add_zero, List.getElem?_eq_getElem hlt, hv] at h0
        exact (List.getElem?_eq_some_iff.1 h0).2
      have hjx : j < xs.length := by omega
      have q0 : wr.cell? ⟨gr, j * 12, none⟩ = some (.int .i64 v.f0) := cell_at hgw j hjx 0 _ (by rw [hxv]; rfl)
      have q1 : wr.cell? ⟨gr, j * 12 + 1, none⟩ = some (.int .i64 v.f1) := cell_at hgw j hjx 1 _ (by rw [hxv]; rfl)
      have q2 : wr.cell? ⟨gr, j * 12 + 2, none⟩ = some (.int .i64 v.f2.f0) := cell_at hgw j hjx 2 _ (by rw [hxv]; rfl)
      have q3 : wr.cell? ⟨gr, j * 12 + 3, none⟩ = some (.int .i64 v.f2.f1) := cell_at hgw j hjx 3 _ (by rw [hxv]; rfl)
      have q4 : wr.cell? ⟨gr, j * 12 + 4, none⟩ = some (.int .i64 v.f2.f2) := cell_at hgw j hjx 4 _ (by rw [hxv]; rfl)
      have q5 : wr.cell? ⟨gr, j * 12 + 5, none⟩ = some (.int .i64 v.f2.f3) := cell_at hgw j hjx 5 _ (by rw [hxv]; rfl)
      have q6 : wr.cell? ⟨gr, j * 12 + 6, none⟩ = some (.int .i64 v.f2.f4.f0) := cell_at hgw j hjx 6 _ (by rw [hxv]; rfl)
      have q7 : wr.cell? ⟨gr, j * 12 + 7, none⟩ = some (.int .i64 v.f2.f4.f1) := cell_at hgw j hjx 7 _ (by rw [hxv]; rfl)
      have q8 : wr.cell? ⟨gr, j * 12 + 8, none⟩ = some (.int .i64 v.f2.f4.f2) := cell_at hgw j hjx 8 _ (by rw [hxv]; rfl)
      have q9 : wr.cell? ⟨gr, j * 12 + 9, none⟩ = some (.int .i64 v.f2.f4.f3) := cell_at hgw j hjx 9 _ (by rw [hxv]; rfl)
      have q10 : wr.cell? ⟨gr, j * 12 + 10, none⟩ = some (.int .i64 v.f2.f5) := cell_at hgw j hjx 10 _ (by rw [hxv]; rfl)
      have q11 : wr.cell? ⟨gr, j * 12 + 11, none⟩ = some (.int .i64 v.f2.f6) := cell_at hgw j hjx 11 _ (by rw [hxv]; rfl)
      have et := filt_take (fun c => !closedP g c.f1 mark) l j hlt v hv
      have et2 := filt_take (fun c => closedP g c.f1 mark) l j hlt v hv
      have hxj1 : xs.drop (j + 1) = l.drop (j + 1) := by
        have := congrArg (List.drop 1) hxj
        rwa [List.drop_drop, List.drop_drop] at this
      obtain ⟨wa, hwa⟩ : ∃ wa, wa = wr.alloc (.cells #[.int .i64 v.f0, .int .i64 v.f1, .int .i64 v.f2.f0, .int .i64 v.f2.f1, .int .i64 v.f2.f2, .int .i64 v.f2.f3, .int .i64 v.f2.f4.f0, .int .i64 v.f2.f4.f1, .int .i64 v.f2.f4.f2, .int .i64 v.f2.f4.f3, .int .i64 v.f2.f5, .int .i64 v.f2.f6] 46) := ⟨_, rfl⟩
      have hba : Below wr.heap.size wr wa := by rw [hwa]; exact (Below.refl _ _).alloc (Nat.le_refl _) _
      have hbx : wa.heap[wr.heap.size]? = some (.cells #[.int .i64 v.f0, .int .i64 v.f1, .int .i64 v.f2.f0, .int .i64 v.f2.f1, .int .i64 v.f2.f2, .int .i64 v.f2.f3, .int .i64 v.f2.f4.f0, .int .i64 v.f2.f4.f1, .int .i64 v.f2.f4.f2, .int .i64 v.f2.f4.f3, .int .i64 v.f2.f5, .int .i64 v.f2.f6] 46 (0, 0)) := by rw [hwa]; exact heap_alloc_new _ _
      have hll : (lo ++ (l.take j).filter (fun c => closedP g c.f1 mark)).length ≤ 1000000 := by
        rw [List.length_append]
        have := List.length_filter_le (fun c : S46 => closedP g c.f1 mark) (l.take j)
        rw [List.length_take] at this
        omega
      have hcall := feed2_calls g mark v gg gs go B _ wa (hsr.below hba) hgg hgs (hov.below hba) hll
      have hga := blk_below hgw hba
      have hFa : ∀ k, k < B → k ≠ gr → wa.heap[k]? = w.heap[k]? := fun k h1 h2 => (hba.block k (by omega)).trans (HFr.out k h1 h2)
      have hBa : Below B0 w0 wa := hBr'.trans (hba.mono (by omega))
      have hsa := hsr.below hba
      have hsza : B ≤ wa.heap.size := Nat.le_trans hszr hba.size
      have HFa := Lib.hid hFa
      have HET := Lib.hid et
      have HET2 := Lib.hid et2
      have HXI := Lib.hid hxi
      have HXJ := Lib.hid hxj1
      have HBX := Lib.hid hbx
      have HWA := Lib.hid hwa
      have HBE := Lib.hid hBa
      rw [hwa] at hcall
      clear et et2 hxi hxj hxj1 hov hFa HFr hbx hba hv hll hxv hgw hBr' hsr hwa hBa
      cases hn : closedP g v.f1 mark with
      | true =>
        rw [hn, if_pos rfl] at hcall
        have HN := Lib.hid hn
        clear hn
        go_wp2_with (first | (go_at_call 59; go_loud ((with_reducible refine hcall.mono ?_); rintro e w2 ⟨rfl, hv2, hb2, _⟩; rw [← HWA.out] at hb2; have HV2 := Lib.hid hv2; clear hv2)))
        go_roundg gk
        case measure => omega
        case rel =>
          refine ⟨i, j + 1, xs, tl, rfl, by first | rfl | (congr 1), by omega, by omega, by omega, hxl, htl, ?_, HXJ.out, (hb2.block gr hgrB').trans hga, ?_, HBE.out.trans (hb2.mono hB0), Lib.hid (fun k h1 h2 => (hb2.block k h1).trans (HFa.out k h1 h2)), hsa.belowB hb2 hgg hgs, Nat.le_trans hsza hb2.size⟩
          · rw [HET.out, HN.out, HXI.out]; simp
          · rw [HET2.out, HN.out, if_pos rfl, ← List.append_assoc]
            exact HV2.out
      | false =>
        rw [hn, if_neg (by decide), List.append_nil] at hcall
        have HN := Lib.hid hn
        clear hn
        have hix : i < xs.length := by omega
        obtain ⟨y, hy⟩ : ∃ y, rd_T46 xs (i : Int) = y := ⟨_, rfl⟩
        have HY := Lib.hid hy
        clear hy
        go_wp2_with (first | (go_at_call 59; go_loud ((with_reducible refine hcall.mono ?_); rintro e w2 ⟨rfl, hv2, hb2, hnb⟩; have hnb2 := hnb rfl; rw [← HWA.out] at hb2 hnb2; have hgw2 := (hb2.block gr hgrB').trans hga; have hx2 := blk_below HBX.out hnb2; have hy := HY.out; have b0 : w2.cell? ⟨wr.heap.size, 0, none⟩ = some (.int .i64 v.f0) := (blk_cell hx2 0).trans rfl; have b1 : w2.cell? ⟨wr.heap.size, 1, none⟩ = some (.int .i64 v.f1) := (blk_cell hx2 1).trans rfl; have b2 : w2.cell? ⟨wr.heap.size, 2, none⟩ = some (.int .i64 v.f2.f0) := (blk_cell hx2 2).trans rfl; have b3 : w2.cell? ⟨wr.heap.size, 3, none⟩ = some (.int .i64 v.f2.f1) := (blk_cell hx2 3).trans rfl; have b4 : w2.cell? ⟨wr.heap.size, 4, none⟩ = some (.int .i64 v.f2.f2) := (blk_cell hx2 4).trans rfl; have b5 : w2.cell? ⟨wr.heap.size, 5, none⟩ = some (.int .i64 v.f2.f3) := (blk_cell hx2 5).trans rfl; have b6 : w2.cell? ⟨wr.heap.size, 6, none⟩ = some (.int .i64 v.f2.f4.f0) := (blk_cell hx2 6).trans rfl; have b7 : w2.cell? ⟨wr.heap.size, 7, none⟩ = some (.int .i64 v.f2.f4.f1) := (blk_cell hx2 7).trans rfl; have b8 : w2.cell? ⟨wr.heap.size, 8, none⟩ = some (.int .i64 v.f2.f4.f2) := (blk_cell hx2 8).trans rfl; have b9 : w2.cell? ⟨wr.heap.size, 9, none⟩ = some (.int .i64 v.f2.f4.f3) := (blk_cell hx2 9).trans rfl; have b10 : w2.cell? ⟨wr.heap.size, 10, none⟩ = some (.int .i64 v.f2.f5) := (blk_cell hx2 10).trans rfl; have b11 : w2.cell? ⟨wr.heap.size, 11, none⟩ = some (.int .i64 v.f2.f6) := (blk_cell hx2 11).trans rfl; have r0 : w2.cell? ⟨gr, i * 12, none⟩ = some (.int .i64 y.f0) := cell_at hgw2 i hix 0 _ (by rw [hy]; rfl); have r1 : w2.cell? ⟨gr, i * 12 + 1, none⟩ = some (.int .i64 y.f1) := cell_at hgw2 i hix 1 _ (by rw [hy]; rfl); have r2 : w2.cell? ⟨gr, i * 12 + 2, none⟩ = some (.int .i64 y.f2.f0) := cell_at hgw2 i hix 2 _ (by rw [hy]; rfl); have r3 : w2.cell? ⟨gr, i * 12 + 3, none⟩ = some (.int .i64 y.f2.f1) := cell_at hgw2 i hix 3 _ (by rw [hy]; rfl); have r4 : w2.cell? ⟨gr, i * 12 + 4, none⟩ = some (.int .i64 y.f2.f2) := cell_at hgw2 i hix 4 _ (by rw [hy]; rfl); have r5 : w2.cell? ⟨gr, i * 12 + 5, none⟩ = some (.int .i64 y.f2.f3) := cell_at hgw2 i hix 5 _ (by rw [hy]; rfl); have r6 : w2.cell? ⟨gr, i * 12 + 6, none⟩ = some (.int .i64 y.f2.f4.f0) := cell_at hgw2 i hix 6 _ (by rw [hy]; rfl); have r7 : w2.cell? ⟨gr, i * 12 + 7, none⟩ = some (.int .i64 y.f2.f4.f1) := cell_at hgw2 i hix 7 _ (by rw [hy]; rfl); have r8 : w2.cell? ⟨gr, i * 12 + 8, none⟩ = some (.int .i64 y.f2.f4.f2) := cell_at hgw2 i hix 8 _ (by rw [hy]; rfl); have r9 : w2.cell? ⟨gr, i * 12 + 9, none⟩ = some (.int .i64 y.f2.f4.f3) := cell_at hgw2 i hix 9 _ (by rw [hy]; rfl); have r10 : w2.cell? ⟨gr, i * 12 + 10, none⟩ = some (.int .i64 y.f2.f5) := cell_at hgw2 i hix 10 _ (by rw [hy]; rfl); have r11 : w2.cell? ⟨gr, i * 12 + 11, none⟩ = some (.int .i64 y.f2.f6) := cell_at hgw2 i hix 11 _ (by rw [hy]; rfl); have rf0 : w2.frozen? ⟨gr, i * 12, none⟩ = false := blk_frozen hgw2 _; have rf1 : w2.frozen? ⟨gr, i * 12 + 1, none⟩ = false := blk_frozen hgw2 _; have rf2 : w2.frozen? ⟨gr, i * 12 + 2, none⟩ = false := blk_frozen hgw2 _; have rf3 : w2.frozen? ⟨gr, i * 12 + 3, none⟩ = false := blk_frozen hgw2 _; have rf4 : w2.frozen? ⟨gr, i * 12 + 4, none⟩ = false := blk_frozen hgw2 _; have rf5 : w2.frozen? ⟨gr, i * 12 + 5, none⟩ = false := blk_frozen hgw2 _; have rf6 : w2.frozen? ⟨gr, i * 12 + 6, none⟩ = false := blk_frozen hgw2 _; have rf7 : w2.frozen? ⟨gr, i * 12 + 7, none⟩ = false := blk_frozen hgw2 _; have rf8 : w2.frozen? ⟨gr, i * 12 + 8, none⟩ = false := blk_frozen hgw2 _; have rf9 : w2.frozen? ⟨gr, i * 12 + 9, none⟩ = false := blk_frozen hgw2 _; have rf10 : w2.frozen? ⟨gr, i * 12 + 10, none⟩ = false := blk_frozen hgw2 _; have rf11 : w2.frozen? ⟨gr, i * 12 + 11, none⟩ = false := blk_frozen hgw2 _; have HV2 := Lib.hid hv2; clear hv2 hy hnb)))
        go_roundg gk
        case measure => omega
        case rel =>
          have hoth : ∀ k, k ≠ gr → (putC w2 gr (i * 12) v).heap[k]? = w2.heap[k]? := fun k hk => putC_other hk v
          refine ⟨i + 1, j + 1, xs.set i v, tl, by first | rfl | (congr 1), by first | rfl | (congr 1), by omega, by omega, by omega, by rw [List.length_set, hxl], htl, ?_, ?_, putC_heap hgw2 i hix v, ?_, putC_below (HBE.out.trans (hb2.mono hB0)) hBr v, Lib.hid (fun k h1 h2 => (hoth k h2).trans ((hb2.block k h1).trans (HFa.out k h1 h2))), ?_, ?_⟩
          · rw [HET.out, HN.out, ← HXI.out, List.set_eq_take_append_cons_drop, if_pos hix, show xs.take i ++ v :: xs.drop (i + 1) = (xs.take i ++ [v]) ++ xs.drop (i + 1) by simp, List.take_append_of_le_length (by simp; omega), List.take_of_length_le (by simp; omega)]
            simp
          · rw [List.drop_set_of_lt (by omega)]; exact HXJ.out
          · have hV3 := HV2.out.other hgrB' hoth
            rw [HET2.out, HN.out, if_neg (by decide), List.append_nil]
            exact hV3
          · obtain ⟨q1, cs, q2, q3⟩ := hsa.belowB hb2 hgg hgs
            exact ⟨(hoth gg (fun e => hng e.symm)).trans q1, cs, (hoth gs (fun e => hns e.symm)).trans q2, q3⟩
          · exact Nat.le_trans (Nat.le_trans hsza hb2.size) (Nat.le_of_eq (putC_size w2 gr (i * 12) v).symm)
end Go.Proofs.Ytgipepjpkmlmaaa.P
