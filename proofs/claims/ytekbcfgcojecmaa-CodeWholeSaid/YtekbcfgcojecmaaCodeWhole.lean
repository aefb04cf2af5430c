/- A tree's code, made better, leaves the tree's value, and so does that of the folded tree: the plain law and the walk. No condition. -/
import Derived.Test.YtekbcfgcojecmaaF13
import Derived.Test.YtekbcfgcojecmaaBetC
import Derived.Test.YtekbcfgcojecmaaFoldQ
import Derived.Lib.Hide
namespace Go.Proofs.Ytekbcfgcojecmaa.P
open Go.RowKit Go.Proofs.YtekbcfgcojecmaaW.PrintWords Go.Proofs.YtekbcfgcojecmaaW.PrintLast Go.Proofs.YtekbcfgcojecmaaW.PrintMore
set_option linter.unusedVariables false
set_option linter.unusedSimpArgs false
theorem ev_one {α : Type} {g : Nat → Option α} {a b : α} (h : Ev g a) (h' : Ev g b) : a = b := by
  obtain ⟨K, h⟩ := h
  obtain ⟨L, h'⟩ := h'
  exact Option.some.inj ((h (K + L) (by omega)).symm.trans (h' (K + L) (by omega)))
/-- A tree of at most 40 nodes has code, and what it leaves, made better. -/
theorem whole_code {n : S35} {z : Nat} {a : Int → Int → Int → Int} (h : Tr n z a) (hz : z ≤ 40) (key time v : Int) : ∃ c, Ev (fun k => code_Compile.f k n.f0 n.f1 n.f2) (c, 0) ∧ code_Run.f (betL c) key time v = some (a key time v, 0) := by
  obtain ⟨z', hs⟩ := sizes n
  have hzz := ev_one hs.doc (tr_size h (by omega))
  have hp := h.pos
  obtain rfl : z' = z := by omega
  rcases compile_ev n z' hs with ⟨h0, _⟩ | ⟨_, hc⟩
  · omega
  obtain ⟨c, r, o, l1, ev⟩ := hc key time v
  obtain ⟨c', o', l2, l3, f⟩ := tr_of h key time v 0
  have e1 := of_treeC o (c.length + c'.length) (by omega) [] rfl (by simp; omega)
  have e2 := of_treeC o' (c.length + c'.length) (by omega) [] rfl (by simp; omega)
  rw [List.nil_append] at e1 e2
  obtain rfl : c = c' := Option.some.inj (e1.symm.trans e2)
  have hO : hOk c = true := hOk_fits (f 0 (Int.le_refl _)) (by omega) (by omega) (by omega) (by omega)
  rw [if_pos hO] at ev
  refine ⟨c, ev, ?_⟩
  have hr := run_of o' hO
  obtain ⟨H, g⟩ := good_of_hOk hO
  obtain ⟨r', h1, h2⟩ := ends_good g apS key time v
  rw [apC_eq] at hr
  obtain rfl : a key time v = r' := Option.some.inj (hr.symm.trans h1)
  exact bet_run hO h2
theorem tr_of_size {n : S35} {z : Nat} (h : Sz n z) (h0 : 0 < z) : ∃ a, Tr n z a := by
  obtain ⟨k, hk⟩ := h.doc.rounds
  rcases (size_tr k).1 _ _ _ _ hk with h1 | ⟨_, z', a, h2, h3⟩
  · omega
  · obtain rfl : z = z' := by omega
    obtain ⟨op, na, kids⟩ := n
    exact ⟨a, h3⟩
/-- What a box of three cells reads after a call. -/
theorem box_keeps {w w2 : World} {b : Nat} {x y z : Value} (h : w.heap[b]? = some (.cells #[x, y, z] 35 (0, 0))) (hb : Below w.heap.size w w2) : w2.heap[b]? = some (.cells #[x, y, z] 35 (0, 0)) ∧ w2.cell? ⟨b, 0, none⟩ = some x ∧ w2.cell? ⟨b, 1, none⟩ = some y ∧ w2.cell? ⟨b, 2, none⟩ = some z := by
  have h2 := (hb.block b (lt_of_block h)).trans h
  exact ⟨h2, box35 h2⟩
set_option maxHeartbeats 8000000 in
set_option maxRecDepth 100000 in
theorem codeWhole_stop (x y : Int) (A : Option Addr) (c : Nat) (l : List S35) (key time v : Int) (z : Nat) (w : World) (hr : Kd.C k35 w A l.length l) (hc : l.length ≤ c) (hS : Ev (fun k => headgateref21_Size.f k x y l) (z : Int)) (h : z = 0 ∨ 40 < z) :
    Calls Try.prog 9 #[.agg #[.int .i64 x, .int .i64 y, .slice A l.length c], .int .i64 key, .int .i64 time, .int .i64 v] w fun e w' => e = .returned (.bool true) ∧ Below w.heap.size w w' := by
  obtain ⟨kz, hS⟩ := hS.rounds
  have HS := Lib.hid hS
  clear hS
  have hb1 : Below w.heap.size w (w.alloc (.cells #[.int .i64 x, .int .i64 y, .slice A l.length c] 35)) := (Below.refl _ _).alloc (Nat.le_refl _) _
  have hX1 : (w.alloc (.cells #[.int .i64 x, .int .i64 y, .slice A l.length c] 35)).heap[w.heap.size]? = some (.cells #[.int .i64 x, .int .i64 y, .slice A l.length c] 35 (0, 0)) := heap_alloc_new _ _
  have hr1 := Kd.C_below hr hb1
  obtain ⟨y10, y11, y12⟩ := box35 hX1
  by_cases z0 : z = 0
  · subst z0
    clear h
    have hsc := headgateref21_Size.calls kz x y A c l 0 _ hr1 hc HS.out
    go_enter Try.func9, Try.ntmps9
    go_wp2_with (first | (go_at_call 19; go_loud ((with_reducible refine hsc.mono ?_); rintro e w2 ⟨rfl, hb2⟩; have hbb2 := below_then hb1 hb1.size hb2)) | (go_at_call 13; go_loud ((with_reducible refine (awake_calls _).mono ?_); rintro e w3 ⟨rfl, hb3⟩; have hbb3 := below_then hbb2 hbb2.size hb3)))
    go_ret
    exact ⟨rfl, hbb3⟩
  · have hz : 40 < z := by omega
    have b1 : ((z : Int) == 0) = false := beq_eq_false_iff_ne.2 (by omega)
    have b2 : decide ((40 : Int) < (z : Int)) = true := decide_eq_true (by omega)
    have b3 : (z == 0) = false := beq_eq_false_iff_ne.2 z0
    have hsc := fun W hr => headgateref21_Size.calls kz x y A c l z W hr hc HS.out
    have HSC := Lib.hid hsc
    clear hsc h z0
    go_enter Try.func9, Try.ntmps9
    go_wp2_with (first | (go_at_call 19; (with_reducible refine (HSC.out _ hr1).mono ?_); rintro e w2 ⟨rfl, hb2⟩; obtain ⟨hX2, y20, y21, y22⟩ := box_keeps hX1 hb2; have hbb2 := below_then hb1 hb1.size hb2; have hr2 := Kd.C_below hr hbb2) | (go_at_call 19; (with_reducible refine (HSC.out _ hr2).mono ?_); rintro e w4 ⟨rfl, hb4⟩; have hbb4 := below_then hbb2 hbb2.size hb4) | (go_at_call 13; go_loud ((with_reducible refine (awake_calls _).mono ?_); rintro e w3 ⟨rfl, hb3⟩; have hbb3 := below_then hbb4 hbb4.size hb3)))
    go_ret
    exact ⟨rfl, hbb3⟩
set_option maxHeartbeats 8000000 in
set_option maxRecDepth 100000 in
theorem codeWhole_good (x y x' y' : Int) (A : Option Addr) (c : Nat) (l l' : List S35) (key time v r : Int) (z : Nat) (p q : List S54) (w : World) (hr : Kd.C k35 w A l.length l) (hc : l.length ≤ c) (hS : Ev (fun k => headgateref21_Size.f k x y l) (z : Int)) (h0 : 0 < z) (h1 : z ≤ 40)
    (hV : Ev (fun k => headgateref21_Value.f k x y l key time v) r) (hF : Ev (fun k => headgateref21_Fold.f k x y l) (x', y', l', 0)) (hp : Ev (fun k => code_Compile.f k x y l) (p, 0)) (hq : Ev (fun k => code_Compile.f k x' y' l') (q, 0)) (hrp : code_Run.f (betL p) key time v = some (r, 0)) (hrq : code_Run.f (betL q) key time v = some (r, 0)) :
    Calls Try.prog 9 #[.agg #[.int .i64 x, .int .i64 y, .slice A l.length c], .int .i64 key, .int .i64 time, .int .i64 v] w fun e w' => e = .returned (.bool true) ∧ Below w.heap.size w w' := by
  obtain ⟨kz, hS⟩ := hS.rounds
  obtain ⟨kv, hV⟩ := hV.rounds
  obtain ⟨kf, hF⟩ := hF.rounds
  obtain ⟨kp, hp⟩ := hp.rounds
  obtain ⟨kq, hq⟩ := hq.rounds
  have hb1 : Below w.heap.size w (w.alloc (.cells #[.int .i64 x, .int .i64 y, .slice A l.length c] 35)) := (Below.refl _ _).alloc (Nat.le_refl _) _
  have hX1 : (w.alloc (.cells #[.int .i64 x, .int .i64 y, .slice A l.length c] 35)).heap[w.heap.size]? = some (.cells #[.int .i64 x, .int .i64 y, .slice A l.length c] 35 (0, 0)) := heap_alloc_new _ _
  have hr1 := Kd.C_below hr hb1
  obtain ⟨y10, y11, y12⟩ := box35 hX1
  have b1 : ((z : Int) == 0) = false := beq_eq_false_iff_ne.2 (by omega)
  have b2 : decide ((40 : Int) < (z : Int)) = false := decide_eq_false (by omega)
  have b3 : (z == 0) = false := beq_eq_false_iff_ne.2 (by omega)
  have HSC := Lib.hid (fun W hr => headgateref21_Size.calls kz x y A c l z W hr hc hS)
  have HVC := Lib.hid (fun W hr => headgateref21_Value.calls kv x y A c l key time v r W hr hc hV)
  have HFC := Lib.hid (fun W hv => headgateref21_Fold.calls kf x y (fun k => k < w.heap.size) A c l x' y' l' 0 W hv hF)
  have HPC := Lib.hid (fun W hr => code_Compile.calls kp x y A c l p 0 W hr hc hp)
  have HQC := Lib.hid (fun W A' c' hr hc => code_Compile.calls kq x' y' A' c' l' q 0 W hr hc hq)
  have HRP := Lib.hid (fun W A' c' hr hc => code_Run.calls A' c' (betL p) key time v r 0 W hr hc hrp)
  have HRQ := Lib.hid (fun W A' c' hr hc => code_Run.calls A' c' (betL q) key time v r 0 W hr hc hrq)
  clear hS hV hF hp hq hrp hrq h0 h1
  go_enter Try.func9, Try.ntmps9
  go_wp2_with (first | (go_at_call 19; (with_reducible refine (HSC.out _ hr1).mono ?_); rintro e w2 ⟨rfl, hb2⟩; obtain ⟨hX2, y20, y21, y22⟩ := box_keeps hX1 hb2; have hbb2 := below_then hb1 hb1.size hb2; have hr2 := Kd.C_below hr hbb2) | (go_at_call 19; (with_reducible refine (HSC.out _ hr2).mono ?_); rintro e w3 ⟨rfl, hb3⟩; obtain ⟨hX3, y30, y31, y32⟩ := box_keeps hX2 hb3; have hbb3 := below_then hbb2 hbb2.size hb3; have hr3 := Kd.C_below hr hbb3) | (go_at_call 20; go_loud ((with_reducible refine (HVC.out _ hr3).mono ?_); rintro e w4 ⟨rfl, hb4⟩; obtain ⟨hX4, y40, y41, y42⟩ := box_keeps hX3 hb4; have hbb4 := below_then hbb3 hbb3.size hb4; have hr4 := Kd.C_below hr hbb4)) | (go_at_call 23; go_loud (refine (HFC.out _ ?_).mono ?_; (exact Kd.V_mk hc (Kd.F_below (Kd.C_F k35_heap hr) hbb4)); rintro e w5 ⟨v5, rfl, hV5, hb5⟩; obtain ⟨A5, c5, rfl⟩ := Kd.V_slice hV5; obtain ⟨hX5, y50, y51, y52⟩ := box_keeps hX4 hb5; have hbb5 := below_then hbb4 hbb4.size hb5; have hb6 : Below w.heap.size w (w5.alloc (.cells #[.int .i64 x', .int .i64 y', .slice A5 l'.length c5] 35)) := hbb5.alloc hbb5.size _; have hV6 := Kd.V_alloc hV5 (.cells #[.int .i64 x', .int .i64 y', .slice A5 l'.length c5] 35); have hX6 := (Below.heap_alloc w5 (.cells #[.int .i64 x', .int .i64 y', .slice A5 l'.length c5] 35) w.heap.size (lt_of_block hX5)).trans hX5; have hZ6 : (w5.alloc (.cells #[.int .i64 x', .int .i64 y', .slice A5 l'.length c5] 35)).heap[w5.heap.size]? = some (.cells #[.int .i64 x', .int .i64 y', .slice A5 l'.length c5] 35 (0, 0)) := heap_alloc_new _ _; obtain ⟨y60, y61, y62⟩ := box35 hX6; have hr6 := Kd.C_below hr hb6)) | (go_at_call 16; (with_reducible refine (HPC.out _ hr6).mono ?_); rintro e w7 ⟨v7, rfl, hR7, hb7⟩; obtain ⟨A7, c7, rfl, hc7, hq7⟩ := Kd.R_reads hR7; obtain ⟨hZ7, y70, y71, y72⟩ := box_keeps hZ6 hb7; have hV7 := Kd.V_below hV6 hb7; have hbb7 := below_then hb6 hb6.size hb7) | (go_at_call 16; (with_reducible refine (HQC.out _ A5 c5 (Kd.V_reads' hV7).2.2 (Kd.V_reads' hV7).2.1).mono ?_); rintro e w8 ⟨v8, rfl, hR8, hb8⟩; obtain ⟨A8, c8, rfl, hc8, hq8⟩ := Kd.R_reads hR8; have hq78 := Kd.C_below hq7 hb8; have hbb8 := below_then hbb7 hbb7.size hb8) | (go_at_call 21; (with_reducible refine (code_Better.calls A7 c7 p (betL p) (betE p) _ hq78 hc7 rfl).mono ?_); rintro e w9 ⟨v9, rfl, hR9, hb9⟩; obtain ⟨A9, c9, rfl, hc9, hq9⟩ := Kd.R_reads hR9; have hq89 := Kd.C_below hq8 hb9; have hbb9 := below_then hbb8 hbb8.size hb9) | (go_at_call 21; (with_reducible refine (code_Better.calls A8 c8 q (betL q) (betE q) _ hq89 hc8 rfl).mono ?_); rintro e w10 ⟨v10, rfl, hR10, hb10⟩; obtain ⟨A10, c10, rfl, hc10, hq10⟩ := Kd.R_reads hR10; have hq9a := Kd.C_below hq9 hb10; have hbb10 := below_then hbb9 hbb9.size hb10) | (go_at_call 14; (with_reducible refine (HRP.out _ A9 c9 hq9a hc9).mono ?_); rintro e w11 ⟨rfl, hb11⟩; have hq10a := Kd.C_below hq10 hb11; have hbb11 := below_then hbb10 hbb10.size hb11) | (go_at_call 14; (with_reducible refine (HRQ.out _ A10 c10 hq10a hc10).mono ?_); rintro e w12 ⟨rfl, hb12⟩; have hbb12 := below_then hbb11 hbb11.size hb12) | (go_at_call 13; go_loud ((with_reducible refine (awake_calls _).mono ?_); rintro e w13 ⟨rfl, hb13⟩; have hbb13 := below_then hbb12 hbb12.size hb13)))
  go_ret
  exact ⟨rfl, hbb13⟩
theorem codeWhole_walk (x y : Int) (A : Option Addr) (c : Nat) (l : List S35) (key time v : Int) (w : World) (hr : Kd.C k35 w A l.length l) (hc : l.length ≤ c) :
    Calls Try.prog 9 #[.agg #[.int .i64 x, .int .i64 y, .slice A l.length c], .int .i64 key, .int .i64 time, .int .i64 v] w fun e w' => e = .returned (.bool true) ∧ Below w.heap.size w w' := by
  obtain ⟨z, hz⟩ := sizes ⟨x, y, l⟩
  by_cases h : z = 0 ∨ 40 < z
  · exact codeWhole_stop x y A c l key time v z w hr hc hz.doc h
  · obtain ⟨a, t⟩ := tr_of_size hz (by omega)
    obtain ⟨n', z', t', hz', hf⟩ := fold_tr t
    obtain ⟨p, hp, hrp⟩ := whole_code t (by omega) key time v
    obtain ⟨q, hq, hrq⟩ := whole_code t' (by omega) key time v
    have hfold : Ev (fun k => headgateref21_Fold.f k x y l) (n'.f0, n'.f1, n'.f2, 0) := by
      unfold headgateref21_Fold.f
      refine Ev.bind hz.doc ?_
      simp only [if_neg (show ¬ (z : Int) = 0 by omega)]
      refine Ev.bind hf ?_
      exact Ev.now _
    exact codeWhole_good x y n'.f0 n'.f1 A c l n'.f2 key time v (a key time v) z p q w hr hc hz.doc (by omega) (by omega) (tr_val t key time v) hfold hp hq hrp hrq
end Go.Proofs.Ytekbcfgcojecmaa.P
