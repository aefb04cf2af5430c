import Derived.Test.YtgipepjpkmlmaaaF48
import Derived.Test.YtgipepjpkmlmaaaM1
import Derived.Deep.RegionWith
namespace Go.Proofs.Ytgipepjpkmlmaaa.P
set_option linter.unusedVariables false
set_option linter.unusedSimpArgs false
section
open Go.RowKit Go.Proofs.YtgipepjpkmlmaaaW.PrintWords Go.Proofs.YtgipepjpkmlmaaaW.PrintLast Go.Proofs.YtgipepjpkmlmaaaW.PrintMore
abbrev cellV (x : S46) : Value := .agg #[.int .i64 x.f0, .int .i64 x.f1, .int .i64 x.f2.f0, .int .i64 x.f2.f1, .int .i64 x.f2.f2, .int .i64 x.f2.f3, .int .i64 x.f2.f4.f0, .int .i64 x.f2.f4.f1, .int .i64 x.f2.f4.f2, .int .i64 x.f2.f4.f3, .int .i64 x.f2.f5, .int .i64 x.f2.f6]
def cmpP (a b : Int) : Int := if a < b then -1 else if b < a then 1 else 0
/-- By the start, then by the key. -/
def ordP (x y : S46) : Int := if cmpP x.f1 y.f1 ≠ 0 then cmpP x.f1 y.f1 else cmpP x.f0 y.f0
theorem cmp_f (a b : Int) : cmp_Compare_int.f a b = some (cmpP a b) := by
  simp only [cmp_Compare_int.f, cmp_isNaN_int.f, cmpP, bne_self_eq_false, Option.bind_some]
  by_cases h : a < b
  · simp [h]
  · by_cases h2 : b < a
    · simp [h, h2]
    · simp [h, h2]
theorem or_f (a b : Int) : cmp_Or_int.f 4 [a, b] = some (if a ≠ 0 then a else b) := by
  have w1 : wrap64 (0 + 1) = 1 := by (unfold wrap64; omega)
  have w2 : wrap64 (1 + 1) = 2 := by (unfold wrap64; omega)
  have r0 : rd [a, b] 0 = a := rfl
  have r1 : rd [a, b] 1 = b := rfl
  have l2 : (([a, b] : List Int).length : Int) = 2 := rfl
  unfold cmp_Or_int.f
  simp only [cmp_Or_int.l0, w1, w2, r0, r1, l2]
  by_cases h : a = 0
  · by_cases h2 : b = 0
    · simp [h, h2]
    · simp [h, h2]
  · simp [h]
theorem order_calls (x y : S46) (w : World) : Calls Try.prog 48 #[cellV x, cellV y] w fun e w' => e = .returned (.int .i64 (ordP x y)) ∧ Below w.heap.size w w' := by
  refine engine_order.calls 4 _ _ _ _ _ _ _ _ _ _ _ _ _ _ _ _ _ _ _ _ _ _ _ _ _ w ?_
  unfold engine_order.f
  rw [cmp_f, Option.bind_some, cmp_f, Option.bind_some, or_f]
  rfl
end
section
open Go.RowKit Go.Proofs.YtgipepjpkmlmaaaW.PrintWords Go.Proofs.YtgipepjpkmlmaaaW.PrintLast Go.Proofs.YtgipepjpkmlmaaaW.PrintMore
/-- The place that is sought, between two places. -/
def bsL (l : List S46) (t : S46) : Nat → Nat → Nat → Nat
  | 0, i, _ => i
  | f + 1, i, j => if i < j then (if ordP (rd_T46 l (((i + j) / 2 : Nat) : Int)) t < 0 then bsL l t f ((i + j) / 2 + 1) j else bsL l t f i ((i + j) / 2)) else i
def bsI (l : List S46) (t : S46) : Nat := bsL l t (l.length + 1) 0 l.length
def bsF (l : List S46) (t : S46) : Bool := decide (bsI l t < l.length) && ordP (rd_T46 l (bsI l t : Int)) t == 0
set_option maxHeartbeats 8000000 in
set_option maxRecDepth 100000 in
theorem bs_calls (A : Option Addr) (c : Nat) (l : List S46) (t : S46) (w : World) (hr : k46.C w A l.length l) (hc : l.length ≤ c) (hl : l.length ≤ 1000000) :
    Calls Try.prog 85 #[.slice A l.length c, cellV t, .func (.func 48) #[] #[]] w fun e w' => e = .returned (.tuple #[.int .i64 (bsI l t : Nat), .bool (bsF l t)]) ∧ Below w.heap.size w w' := by
  obtain ⟨R, hR⟩ : ∃ R, bsI l t = R := ⟨_, rfl⟩
  have hR2 : bsL l t (l.length + 1) 0 l.length = R := hR
  have hF : bsF l t = (decide (R < l.length) && ordP (rd_T46 l (R : Int)) t == 0) := by rw [← hR]; rfl
  obtain ⟨FB, hFB⟩ : ∃ b, bsF l t = b := ⟨_, rfl⟩
  rw [hR, hFB]
  rw [hFB] at hF
  have HF := Lib.hid hF
  clear hR hF hFB
  have hX1 : (w.alloc (.cells #[.int .i64 t.f0, .int .i64 t.f1, .int .i64 t.f2.f0, .int .i64 t.f2.f1, .int .i64 t.f2.f2, .int .i64 t.f2.f3, .int .i64 t.f2.f4.f0, .int .i64 t.f2.f4.f1, .int .i64 t.f2.f4.f2, .int .i64 t.f2.f4.f3, .int .i64 t.f2.f5, .int .i64 t.f2.f6] 46)).heap[w.heap.size]? = some (.cells #[.int .i64 t.f0, .int .i64 t.f1, .int .i64 t.f2.f0, .int .i64 t.f2.f1, .int .i64 t.f2.f2, .int .i64 t.f2.f3, .int .i64 t.f2.f4.f0, .int .i64 t.f2.f4.f1, .int .i64 t.f2.f4.f2, .int .i64 t.f2.f4.f3, .int .i64 t.f2.f5, .int .i64 t.f2.f6] 46 (0, 0)) := heap_alloc_new _ _
  have hb1 : Below w.heap.size w (w.alloc (.cells #[.int .i64 t.f0, .int .i64 t.f1, .int .i64 t.f2.f0, .int .i64 t.f2.f1, .int .i64 t.f2.f2, .int .i64 t.f2.f3, .int .i64 t.f2.f4.f0, .int .i64 t.f2.f4.f1, .int .i64 t.f2.f4.f2, .int .i64 t.f2.f4.f3, .int .i64 t.f2.f5, .int .i64 t.f2.f6] 46)) := (Below.refl _ _).alloc (Nat.le_refl _) _
  have HX := Lib.hid hX1
  have HB1 := Lib.hid hb1
  clear hX1 hb1
  go_enter Try.func85, Try.ntmps85
  go_wp2
  go_loopg [9, 10] l.length (fun kq v9 v10 wr => ∃ (i j f : Nat), v9 = .int .i64 (i : Int) ∧ v10 = .int .i64 (j : Int) ∧ i ≤ j ∧ j ≤ l.length ∧ j - i ≤ kq ∧ j - i < f ∧ bsL l t f i j = R ∧ wr.heap[w.heap.size]? = some (.cells #[.int .i64 t.f0, .int .i64 t.f1, .int .i64 t.f2.f0, .int .i64 t.f2.f1, .int .i64 t.f2.f2, .int .i64 t.f2.f3, .int .i64 t.f2.f4.f0, .int .i64 t.f2.f4.f1, .int .i64 t.f2.f4.f2, .int .i64 t.f2.f4.f3, .int .i64 t.f2.f5, .int .i64 t.f2.f6] 46 (0, 0)) ∧ Below w.heap.size w wr)
  case atStart => exact ⟨0, l.length, l.length + 1, rfl, rfl, by omega, by omega, by omega, by omega, hR2, HX.out, HB1.out⟩
  case round =>
    obtain ⟨i, j, f, rfl, rfl, hij, hjl, hk, hf, hs, hbox, hbw⟩ := hrel
    clear HX HB1 hR2
    have hrw := Kd.C_below hr hbw
    by_cases hlt : i < j
    rotate_left
    · have d : decide ((i : Int) < (j : Int)) = false := decide_eq_false (by omega)
      obtain ⟨f, rfl⟩ : ∃ g, f = g + 1 := ⟨f - 1, by omega⟩
      simp only [bsL, if_neg hlt] at hs
      subst hs
      by_cases hin : i < l.length
      · have d2 : decide ((i : Int) < (l.length : Int)) = true := decide_eq_true (by omega)
        have d3 : decide (i < l.length) = true := decide_eq_true hin
        obtain ⟨ad, rfl, x0, x1, x2, x3, x4, x5, x6, x7, x8, x9, x10, x11⟩ := at_T46 hrw (i : Int) (by omega) (by omega)
        rw [Int.toNat_natCast] at x0 x1 x2 x3 x4 x5 x6 x7 x8 x9 x10 x11
        have ho := HF.out
        rw [d3] at ho
        clear HF
        revert ho x0 x1 x2 x3 x4 x5 x6 x7 x8 x9 x10 x11
        generalize rd_T46 l (i : Int) = x
        intro x0 x1 x2 x3 x4 x5 x6 x7 x8 x9 x10 x11 ho
        replace HF := Lib.hid ho
        clear ho
        have b0 : wr.cell? ⟨w.heap.size, 0, none⟩ = some (.int .i64 t.f0) := (blk_cell hbox 0).trans rfl
        have b1 : wr.cell? ⟨w.heap.size, 1, none⟩ = some (.int .i64 t.f1) := (blk_cell hbox 1).trans rfl
        have b2 : wr.cell? ⟨w.heap.size, 2, none⟩ = some (.int .i64 t.f2.f0) := (blk_cell hbox 2).trans rfl
        have b3 : wr.cell? ⟨w.heap.size, 3, none⟩ = some (.int .i64 t.f2.f1) := (blk_cell hbox 3).trans rfl
        have b4 : wr.cell? ⟨w.heap.size, 4, none⟩ = some (.int .i64 t.f2.f2) := (blk_cell hbox 4).trans rfl
        have b5 : wr.cell? ⟨w.heap.size, 5, none⟩ = some (.int .i64 t.f2.f3) := (blk_cell hbox 5).trans rfl
        have b6 : wr.cell? ⟨w.heap.size, 6, none⟩ = some (.int .i64 t.f2.f4.f0) := (blk_cell hbox 6).trans rfl
        have b7 : wr.cell? ⟨w.heap.size, 7, none⟩ = some (.int .i64 t.f2.f4.f1) := (blk_cell hbox 7).trans rfl
        have b8 : wr.cell? ⟨w.heap.size, 8, none⟩ = some (.int .i64 t.f2.f4.f2) := (blk_cell hbox 8).trans rfl
        have b9 : wr.cell? ⟨w.heap.size, 9, none⟩ = some (.int .i64 t.f2.f4.f3) := (blk_cell hbox 9).trans rfl
        have b10 : wr.cell? ⟨w.heap.size, 10, none⟩ = some (.int .i64 t.f2.f5) := (blk_cell hbox 10).trans rfl
        have b11 : wr.cell? ⟨w.heap.size, 11, none⟩ = some (.int .i64 t.f2.f6) := (blk_cell hbox 11).trans rfl
        go_wp2
        refine wp_region_any (by kernel_rfl) ?_
        try (change wpAny _ _ _ _ _ _ _ (World.drew _))
        refine wpAny_take (i := 0) (v := ?v0_13) rfl (by kernel_rfl) (by kernel_rfl) (by kernel_rfl) (fun _ _ _ h => h) (Or.inl ⟨by first | (go_simp; done) | rfl, ?hy0_13⟩) ?_
        case hy0_13 => intro w_; first | (go_simp; done) | (go_simp; with_reducible rfl)
        refine wpAny_take (i := 1) (v := ?v1_14) rfl (by kernel_rfl) (by kernel_rfl) (by kernel_rfl) (fun _ _ _ h => h) (Or.inl ⟨by first | (go_simp; done) | rfl, ?hy1_14⟩) ?_
        case hy1_14 => intro w_; first | (go_simp; done) | (go_simp; with_reducible rfl)
        refine wpAny_take (i := 2) (v := ?v2_15) rfl (by kernel_rfl) (by kernel_rfl) (by kernel_rfl) (fun _ _ _ h => h) (Or.inl ⟨by first | (go_simp; done) | rfl, ?hy2_15⟩) ?_
        case hy2_15 => intro w_; first | (go_simp; done) | (go_simp; with_reducible rfl)
        refine wpAny_take (i := 3) (v := ?v3_16) rfl (by kernel_rfl) (by kernel_rfl) (by kernel_rfl) (fun _ _ _ h => h) (Or.inl ⟨by first | (go_simp; done) | rfl, ?hy3_16⟩) ?_
        case hy3_16 => intro w_; first | (go_simp; done) | (go_simp; with_reducible rfl)
        refine wpAny_take (i := 4) (v := ?v4_17) rfl (by kernel_rfl) (by kernel_rfl) (by kernel_rfl) (fun _ _ _ h => h) (Or.inl ⟨by first | (go_simp; done) | rfl, ?hy4_17⟩) ?_
        case hy4_17 => intro w_; first | (go_simp; done) | (go_simp; with_reducible rfl)
        refine wpAny_take (i := 5) (v := ?v5_18) rfl (by kernel_rfl) (by kernel_rfl) (by kernel_rfl) (fun _ _ _ h => h) (Or.inl ⟨by first | (go_simp; done) | rfl, ?hy5_18⟩) ?_
        case hy5_18 => intro w_; first | (go_simp; done) | (go_simp; with_reducible rfl)
        refine wpAny_take (i := 6) (v := ?v6_19) rfl (by kernel_rfl) (by kernel_rfl) (by kernel_rfl) (fun _ _ _ h => h) (Or.inl ⟨by first | (go_simp; done) | rfl, ?hy6_19⟩) ?_
        case hy6_19 => intro w_; first | (go_simp; done) | (go_simp; with_reducible rfl)
        refine wpAny_take (i := 7) (v := ?v7_20) rfl (by kernel_rfl) (by kernel_rfl) (by kernel_rfl) (fun _ _ _ h => h) (Or.inl ⟨by first | (go_simp; done) | rfl, ?hy7_20⟩) ?_
        case hy7_20 => intro w_; first | (go_simp; done) | (go_simp; with_reducible rfl)
        refine wpAny_take (i := 8) (v := ?v8_21) rfl (by kernel_rfl) (by kernel_rfl) (by kernel_rfl) (fun _ _ _ h => h) (Or.inl ⟨by first | (go_simp; done) | rfl, ?hy8_21⟩) ?_
        case hy8_21 => intro w_; first | (go_simp; done) | (go_simp; with_reducible rfl)
        refine wpAny_ready (rs := [9, 10]) (by kernel_rfl) (by simp) ?_
        refine (AllReady.cons rfl (fun K hK => ?_) (AllReady.cons rfl (fun K hK => ?_) AllReady.nil))
        · go_simp
          refine hK _ _ ?_
          clear hK K
          refine wpAny_ready (rs := [10]) (by kernel_rfl) (by simp) ?_
          refine (AllReady.cons rfl (fun K hK => ?_) AllReady.nil)
          · go_simp
            refine hK _ _ ?_
            clear hK K
            refine wpAny_ready (rs := [11]) (by kernel_rfl) (by simp) ?_
            refine (AllReady.cons rfl (fun K hK => ?_) AllReady.nil)
            · go_simp
              go_wp2_with (first | (go_at_call 48; go_loud ((with_reducible refine (order_calls x t _).mono ?_); rintro e w' ⟨rfl, hb2⟩)))
              refine wpAny_take (i := 12) (v := ?v12_22) rfl (by kernel_rfl) (by kernel_rfl) (by kernel_rfl) (fun _ _ _ h => h) (Or.inl ⟨by first | (go_simp; done) | rfl, ?hy12_22⟩) ?_
              case hy12_22 => intro w_; first | (go_simp; done) | (go_simp; with_reducible rfl)
              refine wpAny_take (i := 13) (v := ?v13_23) rfl (by kernel_rfl) (by kernel_rfl) (by kernel_rfl) (fun _ _ _ h => h) (Or.inl ⟨by first | (go_simp; done) | rfl, ?hy13_23⟩) ?_
              case hy13_23 => intro w_; first | (go_simp; done) | (go_simp; with_reducible rfl)
              refine wpAny_take (i := 14) (v := ?v14_24) rfl (by kernel_rfl) (by kernel_rfl) (by kernel_rfl) (fun _ _ _ h => h) (Or.inl ⟨by first | (go_simp; done) | rfl, ?hy14_24⟩) ?_
              case hy14_24 => intro w_; first | (go_simp; done) | (go_simp; with_reducible rfl)
              refine wpAny_take (i := 15) (v := ?v15_25) rfl (by kernel_rfl) (by kernel_rfl) (by kernel_rfl) (fun _ _ _ h => h) (Or.inl ⟨by first | (go_simp; done) | rfl, ?hy15_25⟩) ?_
              case hy15_25 => intro w_; first | (go_simp; done) | (go_simp; with_reducible rfl)
              refine wpAny_done (by kernel_rfl) ?_ _
              try go_simp
              go_wp2
              go_ret2
              exact ⟨by rw [HF.out]; rfl, below_step (below_drew hbw) hb2⟩
        · go_simp
          refine hK _ _ ?_
          clear hK K
          refine wpAny_ready (rs := [9]) (by kernel_rfl) (by simp) ?_
          refine (AllReady.cons rfl (fun K hK => ?_) AllReady.nil)
          · go_simp
            refine hK _ _ ?_
            clear hK K
            refine wpAny_ready (rs := [11]) (by kernel_rfl) (by simp) ?_
            refine (AllReady.cons rfl (fun K hK => ?_) AllReady.nil)
            · go_simp
              go_wp2_with (first | (go_at_call 48; go_loud ((with_reducible refine (order_calls x t _).mono ?_); rintro e w' ⟨rfl, hb2⟩)))
              refine wpAny_take (i := 12) (v := ?v12_26) rfl (by kernel_rfl) (by kernel_rfl) (by kernel_rfl) (fun _ _ _ h => h) (Or.inl ⟨by first | (go_simp; done) | rfl, ?hy12_26⟩) ?_
              case hy12_26 => intro w_; first | (go_simp; done) | (go_simp; with_reducible rfl)
              refine wpAny_take (i := 13) (v := ?v13_27) rfl (by kernel_rfl) (by kernel_rfl) (by kernel_rfl) (fun _ _ _ h => h) (Or.inl ⟨by first | (go_simp; done) | rfl, ?hy13_27⟩) ?_
              case hy13_27 => intro w_; first | (go_simp; done) | (go_simp; with_reducible rfl)
              refine wpAny_take (i := 14) (v := ?v14_28) rfl (by kernel_rfl) (by kernel_rfl) (by kernel_rfl) (fun _ _ _ h => h) (Or.inl ⟨by first | (go_simp; done) | rfl, ?hy14_28⟩) ?_
              case hy14_28 => intro w_; first | (go_simp; done) | (go_simp; with_reducible rfl)
              refine wpAny_take (i := 15) (v := ?v15_29) rfl (by kernel_rfl) (by kernel_rfl) (by kernel_rfl) (fun _ _ _ h => h) (Or.inl ⟨by first | (go_simp; done) | rfl, ?hy15_29⟩) ?_
              case hy15_29 => intro w_; first | (go_simp; done) | (go_simp; with_reducible rfl)
              refine wpAny_done (by kernel_rfl) ?_ _
              try go_simp
              go_wp2
              go_ret2
              exact ⟨by rw [HF.out]; rfl, below_step (below_drew hbw) hb2⟩
      · have d2 : decide ((i : Int) < (l.length : Int)) = false := decide_eq_false (by omega)
        have d3 : decide (i < l.length) = false := decide_eq_false hin
        go_wp2
        refine wp_region_any (by kernel_rfl) ?_
        try (change wpAny _ _ _ _ _ _ _ (World.drew _))
        refine wpAny_take (i := 0) (v := ?v0_30) rfl (by kernel_rfl) (by kernel_rfl) (by kernel_rfl) (fun _ _ _ h => h) (Or.inl ⟨by first | (go_simp; done) | rfl, ?hy0_30⟩) ?_
        case hy0_30 => intro w_; first | (go_simp; done) | (go_simp; with_reducible rfl)
        refine wpAny_take (i := 1) (v := ?v1_31) rfl (by kernel_rfl) (by kernel_rfl) (by kernel_rfl) (fun _ _ _ h => h) (Or.inl ⟨by first | (go_simp; done) | rfl, ?hy1_31⟩) ?_
        case hy1_31 => intro w_; first | (go_simp; done) | (go_simp; with_reducible rfl)
        refine wpAny_take (i := 2) (v := ?v2_32) rfl (by kernel_rfl) (by kernel_rfl) (by kernel_rfl) (fun _ _ _ h => h) (Or.inl ⟨by first | (go_simp; done) | rfl, ?hy2_32⟩) ?_
        case hy2_32 => intro w_; first | (go_simp; done) | (go_simp; with_reducible rfl)
        refine wpAny_take (i := 3) (v := ?v3_33) rfl (by kernel_rfl) (by kernel_rfl) (by kernel_rfl) (fun _ _ _ h => h) (Or.inl ⟨by first | (go_simp; done) | rfl, ?hy3_33⟩) ?_
        case hy3_33 => intro w_; first | (go_simp; done) | (go_simp; with_reducible rfl)
        refine wpAny_take (i := 4) (v := ?v4_34) rfl (by kernel_rfl) (by kernel_rfl) (by kernel_rfl) (fun _ _ _ h => h) (Or.inl ⟨by first | (go_simp; done) | rfl, ?hy4_34⟩) ?_
        case hy4_34 => intro w_; first | (go_simp; done) | (go_simp; with_reducible rfl)
        refine wpAny_take (i := 5) (v := undef) rfl (by kernel_rfl) (by kernel_rfl) (by kernel_rfl) (fun _ _ _ h => h) (Or.inr ⟨by (go_simp; done), rfl⟩) ?_
        refine wpAny_take (i := 6) (v := undef) rfl (by kernel_rfl) (by kernel_rfl) (by kernel_rfl) (fun _ _ _ h => h) (Or.inr ⟨by (go_simp; done), rfl⟩) ?_
        refine wpAny_take (i := 7) (v := undef) rfl (by kernel_rfl) (by kernel_rfl) (by kernel_rfl) (fun _ _ _ h => h) (Or.inr ⟨by (go_simp; done), rfl⟩) ?_
        refine wpAny_take (i := 8) (v := undef) rfl (by kernel_rfl) (by kernel_rfl) (by kernel_rfl) (fun _ _ _ h => h) (Or.inr ⟨by (go_simp; done), rfl⟩) ?_
        refine wpAny_take (i := 9) (v := undef) rfl (by kernel_rfl) (by kernel_rfl) (by kernel_rfl) (fun _ _ _ h => h) (Or.inr ⟨by (go_simp; done), rfl⟩) ?_
        refine wpAny_take (i := 10) (v := undef) rfl (by kernel_rfl) (by kernel_rfl) (by kernel_rfl) (fun _ _ _ h => h) (Or.inr ⟨by (go_simp; done), rfl⟩) ?_
        refine wpAny_take (i := 11) (v := undef) rfl (by kernel_rfl) (by kernel_rfl) (by kernel_rfl) (fun _ _ _ h => h) (Or.inr ⟨by (go_simp; done), rfl⟩) ?_
        refine wpAny_take (i := 12) (v := undef) rfl (by kernel_rfl) (by kernel_rfl) (by kernel_rfl) (fun _ _ _ h => h) (Or.inr ⟨by (go_simp; done), rfl⟩) ?_
        refine wpAny_take (i := 13) (v := ?v13_35) rfl (by kernel_rfl) (by kernel_rfl) (by kernel_rfl) (fun _ _ _ h => h) (Or.inl ⟨by first | (go_simp; done) | rfl, ?hy13_35⟩) ?_
        case hy13_35 => intro w_; first | (go_simp; done) | (go_simp; with_reducible rfl)
        refine wpAny_take (i := 14) (v := ?v14_36) rfl (by kernel_rfl) (by kernel_rfl) (by kernel_rfl) (fun _ _ _ h => h) (Or.inl ⟨by first | (go_simp; done) | rfl, ?hy14_36⟩) ?_
        case hy14_36 => intro w_; first | (go_simp; done) | (go_simp; with_reducible rfl)
        refine wpAny_take (i := 15) (v := ?v15_37) rfl (by kernel_rfl) (by kernel_rfl) (by kernel_rfl) (fun _ _ _ h => h) (Or.inl ⟨by first | (go_simp; done) | rfl, ?hy15_37⟩) ?_
        case hy15_37 => intro w_; first | (go_simp; done) | (go_simp; with_reducible rfl)
        refine wpAny_done (by kernel_rfl) ?_ _
        try go_simp
        go_wp2
        go_ret2
        exact ⟨by rw [HF.out, d3]; rfl, below_drew hbw⟩
    have d : decide ((i : Int) < (j : Int)) = true := decide_eq_true (by omega)
    cases gk with
    | zero => omega
    | succ gk =>
    have h2 : (i + j) / 2 < l.length := by omega
    obtain ⟨h, hh⟩ : ∃ h, (i + j) / 2 = h := ⟨_, rfl⟩
    have hh2 : ((i : Int) + (j : Int)) / 2 = (h : Int) := by omega
    obtain ⟨f, rfl⟩ : ∃ g, f = g + 1 := ⟨f - 1, by omega⟩
    simp only [bsL, if_pos hlt] at hs
    rw [hh] at hs h2
    obtain ⟨ad, rfl, x0, x1, x2, x3, x4, x5, x6, x7, x8, x9, x10, x11⟩ := at_T46 hrw (h : Int) (by omega) (by omega)
    rw [Int.toNat_natCast] at x0 x1 x2 x3 x4 x5 x6 x7 x8 x9 x10 x11
    revert hs x0 x1 x2 x3 x4 x5 x6 x7 x8 x9 x10 x11
    generalize rd_T46 l (h : Int) = x
    intro hs x0 x1 x2 x3 x4 x5 x6 x7 x8 x9 x10 x11
    have HS := Lib.hid hs
    clear hs
    have b0 : wr.cell? ⟨w.heap.size, 0, none⟩ = some (.int .i64 t.f0) := (blk_cell hbox 0).trans rfl
    have b1 : wr.cell? ⟨w.heap.size, 1, none⟩ = some (.int .i64 t.f1) := (blk_cell hbox 1).trans rfl
    have b2 : wr.cell? ⟨w.heap.size, 2, none⟩ = some (.int .i64 t.f2.f0) := (blk_cell hbox 2).trans rfl
    have b3 : wr.cell? ⟨w.heap.size, 3, none⟩ = some (.int .i64 t.f2.f1) := (blk_cell hbox 3).trans rfl
    have b4 : wr.cell? ⟨w.heap.size, 4, none⟩ = some (.int .i64 t.f2.f2) := (blk_cell hbox 4).trans rfl
    have b5 : wr.cell? ⟨w.heap.size, 5, none⟩ = some (.int .i64 t.f2.f3) := (blk_cell hbox 5).trans rfl
    have b6 : wr.cell? ⟨w.heap.size, 6, none⟩ = some (.int .i64 t.f2.f4.f0) := (blk_cell hbox 6).trans rfl
    have b7 : wr.cell? ⟨w.heap.size, 7, none⟩ = some (.int .i64 t.f2.f4.f1) := (blk_cell hbox 7).trans rfl
    have b8 : wr.cell? ⟨w.heap.size, 8, none⟩ = some (.int .i64 t.f2.f4.f2) := (blk_cell hbox 8).trans rfl
    have b9 : wr.cell? ⟨w.heap.size, 9, none⟩ = some (.int .i64 t.f2.f4.f3) := (blk_cell hbox 9).trans rfl
    have b10 : wr.cell? ⟨w.heap.size, 10, none⟩ = some (.int .i64 t.f2.f5) := (blk_cell hbox 10).trans rfl
    have b11 : wr.cell? ⟨w.heap.size, 11, none⟩ = some (.int .i64 t.f2.f6) := (blk_cell hbox 11).trans rfl
    by_cases co : ordP x t < 0
    · have d5 : decide (ordP x t < 0) = true := decide_eq_true co
      have hs := HS.out
      rw [if_pos co] at hs
      replace HS := Lib.hid hs
      clear hs co
      go_wp2
      refine wp_region_any (by kernel_rfl) ?_
      try (change wpAny _ _ _ _ _ _ _ (World.drew _))
      refine wpAny_take (i := 0) (v := ?v0_1) rfl (by kernel_rfl) (by kernel_rfl) (by kernel_rfl) (fun _ _ _ h => h) (Or.inl ⟨by first | (go_simp; done) | rfl, ?hy0_1⟩) ?_
      case hy0_1 => intro w_; first | (go_simp; done) | (go_simp; with_reducible rfl)
      refine wpAny_take (i := 1) (v := ?v1_2) rfl (by kernel_rfl) (by kernel_rfl) (by kernel_rfl) (fun _ _ _ h => h) (Or.inl ⟨by first | (go_simp; done) | rfl, ?hy1_2⟩) ?_
      case hy1_2 => intro w_; first | (go_simp; done) | (go_simp; with_reducible rfl)
      refine wpAny_take (i := 2) (v := ?v2_3) rfl (by kernel_rfl) (by kernel_rfl) (by kernel_rfl) (fun _ _ _ h => h) (Or.inl ⟨by first | (go_simp; done) | rfl, ?hy2_3⟩) ?_
      case hy2_3 => intro w_; first | (go_simp; done) | (go_simp; with_reducible rfl)
      refine wpAny_take (i := 3) (v := ?v3_4) rfl (by kernel_rfl) (by kernel_rfl) (by kernel_rfl) (fun _ _ _ h => h) (Or.inl ⟨by first | (go_simp; done) | rfl, ?hy3_4⟩) ?_
      case hy3_4 => intro w_; first | (go_simp; done) | (go_simp; with_reducible rfl)
      refine wpAny_ready (rs := [4, 5]) (by kernel_rfl) (by simp) ?_
      refine (AllReady.cons rfl (fun K hK => ?_) (AllReady.cons rfl (fun K hK => ?_) AllReady.nil))
      · go_simp
        refine hK _ _ ?_
        clear hK K
        refine wpAny_ready (rs := [5]) (by kernel_rfl) (by simp) ?_
        refine (AllReady.cons rfl (fun K hK => ?_) AllReady.nil)
        · go_simp
          refine hK _ _ ?_
          clear hK K
          refine wpAny_ready (rs := [6]) (by kernel_rfl) (by simp) ?_
          refine (AllReady.cons rfl (fun K hK => ?_) AllReady.nil)
          · go_simp
            go_wp2_with (first | (go_at_call 48; go_loud ((with_reducible refine (order_calls x t _).mono ?_); rintro e w' ⟨rfl, hb2⟩)))
            refine wpAny_take (i := 7) (v := ?v7_5) rfl (by kernel_rfl) (by kernel_rfl) (by kernel_rfl) (fun _ _ _ h => h) (Or.inl ⟨by first | (go_simp; done) | rfl, ?hy7_5⟩) ?_
            case hy7_5 => intro w_; first | (go_simp; done) | (go_simp; with_reducible rfl)
            refine wpAny_done (by kernel_rfl) ?_ _
            try go_simp
            go_wp2
            go_roundg gk
            case measure => omega
            case rel => exact ⟨h + 1, j, f, by first | rfl | (congr 1), by first | rfl | (congr 1), by omega, by omega, by omega, by omega, HS.out, blk_below (blk_drew hbox) hb2, below_step (below_drew hbw) hb2⟩
      · go_simp
        refine hK _ _ ?_
        clear hK K
        refine wpAny_ready (rs := [4]) (by kernel_rfl) (by simp) ?_
        refine (AllReady.cons rfl (fun K hK => ?_) AllReady.nil)
        · go_simp
          refine hK _ _ ?_
          clear hK K
          refine wpAny_ready (rs := [6]) (by kernel_rfl) (by simp) ?_
          refine (AllReady.cons rfl (fun K hK => ?_) AllReady.nil)
          · go_simp
            go_wp2_with (first | (go_at_call 48; go_loud ((with_reducible refine (order_calls x t _).mono ?_); rintro e w' ⟨rfl, hb2⟩)))
            refine wpAny_take (i := 7) (v := ?v7_6) rfl (by kernel_rfl) (by kernel_rfl) (by kernel_rfl) (fun _ _ _ h => h) (Or.inl ⟨by first | (go_simp; done) | rfl, ?hy7_6⟩) ?_
            case hy7_6 => intro w_; first | (go_simp; done) | (go_simp; with_reducible rfl)
            refine wpAny_done (by kernel_rfl) ?_ _
            try go_simp
            go_wp2
            go_roundg gk
            case measure => omega
            case rel => exact ⟨h + 1, j, f, by first | rfl | (congr 1), by first | rfl | (congr 1), by omega, by omega, by omega, by omega, HS.out, blk_below (blk_drew hbox) hb2, below_step (below_drew hbw) hb2⟩
    · have d5 : decide (ordP x t < 0) = false := decide_eq_false co
      have hs := HS.out
      rw [if_neg co] at hs
      replace HS := Lib.hid hs
      clear hs co
      go_wp2
      refine wp_region_any (by kernel_rfl) ?_
      try (change wpAny _ _ _ _ _ _ _ (World.drew _))
      refine wpAny_take (i := 0) (v := ?v0_7) rfl (by kernel_rfl) (by kernel_rfl) (by kernel_rfl) (fun _ _ _ h => h) (Or.inl ⟨by first | (go_simp; done) | rfl, ?hy0_7⟩) ?_
      case hy0_7 => intro w_; first | (go_simp; done) | (go_simp; with_reducible rfl)
      refine wpAny_take (i := 1) (v := ?v1_8) rfl (by kernel_rfl) (by kernel_rfl) (by kernel_rfl) (fun _ _ _ h => h) (Or.inl ⟨by first | (go_simp; done) | rfl, ?hy1_8⟩) ?_
      case hy1_8 => intro w_; first | (go_simp; done) | (go_simp; with_reducible rfl)
      refine wpAny_take (i := 2) (v := ?v2_9) rfl (by kernel_rfl) (by kernel_rfl) (by kernel_rfl) (fun _ _ _ h => h) (Or.inl ⟨by first | (go_simp; done) | rfl, ?hy2_9⟩) ?_
      case hy2_9 => intro w_; first | (go_simp; done) | (go_simp; with_reducible rfl)
      refine wpAny_take (i := 3) (v := ?v3_10) rfl (by kernel_rfl) (by kernel_rfl) (by kernel_rfl) (fun _ _ _ h => h) (Or.inl ⟨by first | (go_simp; done) | rfl, ?hy3_10⟩) ?_
      case hy3_10 => intro w_; first | (go_simp; done) | (go_simp; with_reducible rfl)
      refine wpAny_ready (rs := [4, 5]) (by kernel_rfl) (by simp) ?_
      refine (AllReady.cons rfl (fun K hK => ?_) (AllReady.cons rfl (fun K hK => ?_) AllReady.nil))
      · go_simp
        refine hK _ _ ?_
        clear hK K
        refine wpAny_ready (rs := [5]) (by kernel_rfl) (by simp) ?_
        refine (AllReady.cons rfl (fun K hK => ?_) AllReady.nil)
        · go_simp
          refine hK _ _ ?_
          clear hK K
          refine wpAny_ready (rs := [6]) (by kernel_rfl) (by simp) ?_
          refine (AllReady.cons rfl (fun K hK => ?_) AllReady.nil)
          · go_simp
            go_wp2_with (first | (go_at_call 48; go_loud ((with_reducible refine (order_calls x t _).mono ?_); rintro e w' ⟨rfl, hb2⟩)))
            refine wpAny_take (i := 7) (v := ?v7_11) rfl (by kernel_rfl) (by kernel_rfl) (by kernel_rfl) (fun _ _ _ h => h) (Or.inl ⟨by first | (go_simp; done) | rfl, ?hy7_11⟩) ?_
            case hy7_11 => intro w_; first | (go_simp; done) | (go_simp; with_reducible rfl)
            refine wpAny_done (by kernel_rfl) ?_ _
            try go_simp
            go_wp2
            go_roundg gk
            case measure => omega
            case rel => exact ⟨i, h, f, by first | rfl | (congr 1), by first | rfl | (congr 1), by omega, by omega, by omega, by omega, HS.out, blk_below (blk_drew hbox) hb2, below_step (below_drew hbw) hb2⟩
      · go_simp
        refine hK _ _ ?_
        clear hK K
        refine wpAny_ready (rs := [4]) (by kernel_rfl) (by simp) ?_
        refine (AllReady.cons rfl (fun K hK => ?_) AllReady.nil)
        · go_simp
          refine hK _ _ ?_
          clear hK K
          refine wpAny_ready (rs := [6]) (by kernel_rfl) (by simp) ?_
          refine (AllReady.cons rfl (fun K hK => ?_) AllReady.nil)
          · go_simp
            go_wp2_with (first | (go_at_call 48; go_loud ((with_reducible refine (order_calls x t _).mono ?_); rintro e w' ⟨rfl, hb2⟩)))
            refine wpAny_take (i := 7) (v := ?v7_12) rfl (by kernel_rfl) (by kernel_rfl) (by kernel_rfl) (fun _ _ _ h => h) (Or.inl ⟨by first | (go_simp; done) | rfl, ?hy7_12⟩) ?_
            case hy7_12 => intro w_; first | (go_simp; done) | (go_simp; with_reducible rfl)
            refine wpAny_done (by kernel_rfl) ?_ _
            try go_simp
            go_wp2
            go_roundg gk
            case measure => omega
            case rel => exact ⟨i, h, f, by first | rfl | (congr 1), by first | rfl | (congr 1), by omega, by omega, by omega, by omega, HS.out, blk_below (blk_drew hbox) hb2, below_step (below_drew hbw) hb2⟩
end
end Go.Proofs.Ytgipepjpkmlmaaa.P
