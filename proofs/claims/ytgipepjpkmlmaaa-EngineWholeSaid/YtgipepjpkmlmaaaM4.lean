import Derived.Test.YtgipepjpkmlmaaaM3
import Derived.Test.YtgipepjpkmlmaaaM2
import Derived.Laws.CopyOwn
import Derived.Lib.Overlaps
namespace Go.Proofs.Ytgipepjpkmlmaaa.P
set_option linter.unusedVariables false
set_option linter.unusedSimpArgs false
section
open Go.RowKit Go.Proofs.YtgipepjpkmlmaaaW.PrintWords Go.Proofs.YtgipepjpkmlmaaaW.PrintLast Go.Proofs.YtgipepjpkmlmaaaW.PrintMore
/-- The cells of one window. -/
def c12 (x : S46) : List Value := [.int .i64 x.f0, .int .i64 x.f1, .int .i64 x.f2.f0, .int .i64 x.f2.f1, .int .i64 x.f2.f2, .int .i64 x.f2.f3, .int .i64 x.f2.f4.f0, .int .i64 x.f2.f4.f1, .int .i64 x.f2.f4.f2, .int .i64 x.f2.f4.f3, .int .i64 x.f2.f5, .int .i64 x.f2.f6]
theorem c12_length (x : S46) : (c12 x).length = 12 := rfl
/-- The cells of many. -/
def flat (l : List S46) : List Value := l.flatMap c12
theorem flat_nil : flat [] = [] := rfl
theorem flat_cons (x : S46) (l : List S46) : flat (x :: l) = c12 x ++ flat l := rfl
theorem flat_append (a b : List S46) : flat (a ++ b) = flat a ++ flat b := by simp [flat]
theorem flat_length (l : List S46) : (flat l).length = l.length * 12 := by
  induction l with
  | nil => rfl
  | cons x l ih => rw [flat_cons, List.length_append, ih, c12_length, List.length_cons]; omega
theorem flat_take (l : List S46) (n : Nat) : flat (l.take n) = (flat l).take (n * 12) := by
  induction l generalizing n with
  | nil => simp [flat]
  | cons x l ih =>
    cases n with
    | zero => simp [flat]
    | succ n => rw [List.take_succ_cons, flat_cons, flat_cons, ih, show (n + 1) * 12 = (c12 x).length + n * 12 by rw [c12_length]; omega, List.take_length_add_append]
theorem flat_drop (l : List S46) (n : Nat) : flat (l.drop n) = (flat l).drop (n * 12) := by
  induction l generalizing n with
  | nil => simp [flat]
  | cons x l ih =>
    cases n with
    | zero => simp [flat]
    | succ n => rw [List.drop_succ_cons, flat_cons, ih, show (n + 1) * 12 = (c12 x).length + n * 12 by rw [c12_length]; omega, List.drop_length_add_append]
theorem flat_one (l : List S46) (v : Value) (h : v ∈ flat l) : v.oneCell' = true := by
  obtain ⟨x, _, hx⟩ := List.mem_flatMap.1 h
  simp [c12] at hx
  rcases hx with rfl | rfl | rfl | rfl | rfl | rfl | rfl | rfl | rfl | rfl | rfl | rfl <;> rfl
theorem flat_inj : ∀ (a b : List S46), flat a = flat b → a = b
  | [], [], _ => rfl
  | [], y :: b, h => by have := congrArg List.length h; rw [flat_length, flat_length] at this; simp at this
  | x :: a, [], h => by have := congrArg List.length h; rw [flat_length, flat_length] at this; simp at this
  | x :: a, y :: b, h => by
    rw [flat_cons, flat_cons] at h
    obtain ⟨h1, h2⟩ := List.append_inj h rfl
    rw [flat_inj a b h2]
    obtain ⟨x0, x1, x2, x3, x4, x5, ⟨x6, x7, x8, x9⟩, x10, x11⟩ := x
    obtain ⟨y0, y1, y2, y3, y4, y5, ⟨y6, y7, y8, y9⟩, y10, y11⟩ := y
    simp [c12] at h1
    simp [h1]
/-- As a row of windows lies. -/
theorem reps_flat {w : World} {B : Nat} {ok : Nat → Prop} : ∀ (l : List S46) (cs : List Value), Reps (k46.M w B ok) 12 l cs → cs = flat l := by
  intro l
  induction l with
  | nil => intro cs h; simpa [flat] using h.1
  | cons x l ih =>
    intro cs h
    have h1 := k46_openM (h.2 0 x rfl)
    rw [Nat.zero_mul, List.drop_zero] at h1
    have h2 : Reps (k46.M w B ok) 12 l (cs.drop 12) := by
      refine ⟨by rw [List.length_drop, h.1, List.length_cons]; omega, fun j p hj => ?_⟩
      have := h.2 (j + 1) p (by simpa using hj)
      rw [List.drop_drop]
      rwa [show 12 + j * 12 = (j + 1) * 12 by omega]
    rw [flat_cons, ← ih _ h2, show c12 x = cs.take 12 from h1.symm, List.take_append_drop]
theorem flat_reps (w : World) (B : Nat) (ok : Nat → Prop) (l : List S46) : Reps (k46.M w B ok) 12 l (flat l) := by
  refine ⟨flat_length l, fun j p hj => ?_⟩
  rw [← flat_drop]
  have hlt : j < l.length := (List.getElem?_eq_some_iff.1 hj).1
  have e : l[j] = p := (List.getElem?_eq_some_iff.1 hj).2
  rw [List.drop_eq_getElem_cons hlt, flat_cons, e, show (12 : Nat) = (c12 p).length from rfl, List.take_left]
  exact k46_mkM _ _ _ _
theorem own_of_R {w : World} {B : Nat} {ok : Nat → Prop} {v : Value} {l : List S46} (h : Kd.R k46 46 w B ok v l) : w.ownsRow B 46 12 v l.length (flat l) := by
  obtain ⟨_, cs, ho, hr⟩ := h
  rw [← reps_flat l cs hr]
  exact ho
theorem R_of_own {w : World} {B : Nat} {ok : Nat → Prop} {v : Value} {l : List S46} (h : w.ownsRow B 46 12 v l.length (flat l)) (hok : ∀ k, v.ownBlock = some k → ok k) : Kd.R k46 46 w B ok v l :=
  ⟨hok, flat l, h, flat_reps _ _ _ _⟩
end
section
open Go.RowKit Go.Proofs.YtgipepjpkmlmaaaW.PrintWords Go.Proofs.YtgipepjpkmlmaaaW.PrintLast Go.Proofs.YtgipepjpkmlmaaaW.PrintMore
/-- 'copy' of windows, into a row that is known whole. -/
theorem run_copy_k {P : Program} (w : World) (dT sT ty elem : TypeId) (sz : Nat) (g o dLen dCap : Nat) (a : Addr) (sLen sCap : Nat) (cur : Array Value) (t : TypeId) (cs : List Value)
    (hu : P.underlying dT = some (.slice elem)) (hs : (P.info? elem).map (·.size) = some sz)
    (hg : w.heap[g]? = some (.cells cur t (0, 0))) (n : Nat) (hm : Nat.min sLen dLen = n) (hn : cs.length = n * sz)
    (hsrc : ∀ j v, cs[j]? = some v → w.cell? (a.add j) = some v) (hfit : o + cs.length ≤ cur.size) (h1 : ∀ v ∈ cs, v.oneCell' = true) :
    (Builtin.copy_ #[dT, sT] ty #[.slice (some ⟨g, o, none⟩) dLen dCap, .slice (some a) sLen sCap]).run P w =
      .ok (goInt n) (w.setRow g (cur.toList.take o ++ cs ++ cur.toList.drop (o + cs.length)).toArray) := by
  have hl := run_loadCells_list (P := P) w a cs hsrc
  have hst := run_storeCells_at P g o t cs 0 cur w hg (by simpa using hfit) h1
  cases hq : P.info? elem with
  | none => simp [hq] at hs
  | some i =>
    have hi : i.size = sz := by simpa [hq] using hs
    simp [Builtin.copy_, run_underlying hu, Builtin.lenOf, Builtin.firstCells, sizeOf, typeInfo, hq, hi, hm, ← hn, hl, hst]
/-- 'append(s, make(S, n)...)' that makes a row anew. -/
theorem run_append_make {P : Program} (w : World) (t u ty e : TypeId) (i : TypeInfo) (z : Value) (ik : IntKind) (ht : P.underlying t = some (.slice e)) (hu : P.underlying u = some (.int ik)) (hi : P.info? e = some i) (hz : i.zero = some z)
    (b : Addr) (sLen sCap : Nat) (olds : List Value) (hlo : olds.length = sLen * i.size) (holds : ∀ j v, olds[j]? = some v → w.cell? (b.add j) = some v)
    (n : Nat) (hn0 : 0 < n * i.size) (h64 : (n : Int) ≤ 1000000000) (hb : i.bytes ≤ 1000)
    (hg : sCap < sLen + n) (h63 : ((sLen + n : Nat) : Int) ≤ 9223372036854775807) (hfit : Builtin.nextslicecap (sLen + n) sCap * i.bytes ≤ 281474976710656) :
    (Builtin.append_ #[t, u] ty #[.slice (some b) sLen sCap, .int .i64 (n : Int)]).run P w =
      .ok (.slice (some ⟨w.heap.size, 0, none⟩) (sLen + n) (grownCap w (sLen + n) sCap e))
        (w.drew.alloc (.cells (olds.toArray ++ Builtin.zeroCells z.cells n ++ Builtin.zeroCells z.cells (grownCap w (sLen + n) sCap e - (sLen + n))) e)) := by
  have hn : ¬ (sLen + n ≤ sCap) := by omega
  have h63' : ¬ (9223372036854775807 < ((sLen : Int) + (n : Int))) := by omega
  have h48' : ¬ (281474976710656 < Builtin.nextslicecap (sLen + n) sCap * i.bytes) := by omega
  have hw : IntKind.i64.wrap (n : Int) = (n : Int) := by rw [i64_w]; unfold wrap64; omega
  have hneg : ¬ ((n : Int) < 0) := by omega
  have hmul : ¬ ((281474976710656 : Int) < (n : Int) * (i.bytes : Int)) := by
    have : (n : Int) * (i.bytes : Int) ≤ 1000000000 * 1000 := Int.mul_le_mul (by omega) (by omega) (by omega) (by omega)
    omega
  have hmx : max (n : Int) 0 = (n : Int) := by omega
  have hnz : n ≠ 0 := by intro q; subst q; simp at hn0
  have hiz : i.size ≠ 0 := by intro q; rw [q] at hn0; simp at hn0
  have hfo := run_firstCells_some (P := P) w.drew i.size sLen b sLen sCap olds hlo (by simpa using holds)
  simp [Builtin.append_, run_underlying ht, run_underlying hu, sizeOf, typeInfo, zeroValue, hi, hz, Builtin.lenOf, hn, h63', h48', Question.forced, hfo, newRow, grownCap, asInt, asIntOf, hw, hneg, hmul, hnz, hiz, hmx]
  intro q
  omega
end
section
open Go.RowKit Go.Proofs.YtgipepjpkmlmaaaW.PrintWords Go.Proofs.YtgipepjpkmlmaaaW.PrintLast Go.Proofs.YtgipepjpkmlmaaaW.PrintMore
theorem c12_mk (w : World) (x : S46) : k46.K w x (c12 x) := k46_mk w x
/-- One window in a block of its own. -/
theorem one_C {w : World} {g : Nat} {x : S46} (h : w.heap[g]? = some (.cells (c12 x).toArray 46 (0, 0))) : k46.C w (some ⟨g, 0, none⟩) 1 [x] := by
  refine ⟨rfl, by omega, fun _ => ⟨_, rfl, fun j p hj => ?_⟩⟩
  obtain rfl : j = 0 := by
    cases j with
    | zero => rfl
    | succ j => simp at hj
  obtain rfl : x = p := by simpa using hj
  refine ⟨c12 x, rfl, c12_mk w x, fun i u hu => ?_⟩
  have e : ((⟨g, 0, none⟩ : Addr).add (0 * k46.sz + i)) = ⟨g, i, none⟩ := by
    rw [Nat.zero_mul, Nat.zero_add]
    unfold Addr.add
    simp
    omega
  rw [e, blk_cell h i]
  simpa using hu
set_option maxHeartbeats 8000000 in
set_option maxRecDepth 100000 in
theorem insert_end (B : Nat) (w0 w : World) (ok : Nat → Prop) (A : Option Addr) (c : Nat) (l : List S46) (x : S46) (gx : Nat) (hl : l.length ≤ 1000000) (hR : Kd.R k46 46 w B ok (.slice A l.length c) l)
    (hx : w.heap[gx]? = some (.cells (c12 x).toArray 46 (0, 0))) (hB : Below B w0 w) (hBw : B ≤ w.heap.size) (hok : ∀ k, w.heap.size ≤ k → ok k) :
    Calls Try.prog 71 #[.slice A l.length c, .int .i64 (l.length : Nat), .slice (some ⟨gx, 0, none⟩) 1 1] w fun e w' => ∃ v', e = .returned v' ∧ Kd.R k46 46 w' B ok v' (l ++ [x]) ∧ Below B w0 w' := by
  have hx1 := one_C hx
  have hc : l.length ≤ c := (Kd.R_reads' hR).2.1
  by_cases hcl : l.length = c
  · subst hcl
    go_enter Try.func71, Try.ntmps71
    go_wp2_with (first | ((with_reducible refine gate_builtin (b := .append) (xs := #[.tmp 23, .tmp 24]) rfl ?_); at_builtin; refine Kd.R_append_rows k46 (w0 := w0) B rfl (.tmp 23) (.tmp 24) 26 46 (.agg #[(.int .i64 0), (.int .i64 0), (.int .i64 0), (.int .i64 0), (.int .i64 0), (.int .i64 0), (.int .i64 0), (.int .i64 0), (.int .i64 0), (.int .i64 0), (.int .i64 0), (.int .i64 0)]) 96 rfl Try.underlying26 info46 rfl (by decide) (by omega) (.slice A l.length l.length) l [x] _ _ _ ok (fun _ => False) rfl rfl hR hx1 (fun _ _ h => by obtain rfl := k46_open h; exact k46_mkM _ _ _ _) (fun _ h => h.elim) hok hB hBw ?aL ?_; (case aL => first | omega | (simp; omega)); intro v1 w1 ho hb hg hat))
    go_ret
    exact ⟨_, rfl, ho, hb⟩
  · have d : decide (l.length = c) = false := decide_eq_false hcl
    have hlt : l.length < c := by omega
    clear hcl hc
    go_enter Try.func71, Try.ntmps71
    go_wp2_with (first | ((with_reducible refine gate_builtin (b := .append) (xs := #[.tmp 23, .tmp 24]) rfl ?_); at_builtin; refine Kd.R_append_rows k46 (w0 := w0) B rfl (.tmp 23) (.tmp 24) 26 46 (.agg #[(.int .i64 0), (.int .i64 0), (.int .i64 0), (.int .i64 0), (.int .i64 0), (.int .i64 0), (.int .i64 0), (.int .i64 0), (.int .i64 0), (.int .i64 0), (.int .i64 0), (.int .i64 0)]) 96 rfl Try.underlying26 info46 rfl (by decide) (by omega) (.slice A l.length c) l [x] _ _ _ ok (fun _ => False) rfl rfl hR hx1 (fun _ _ h => by obtain rfl := k46_open h; exact k46_mkM _ _ _ _) (fun _ h => h.elim) hok hB hBw ?aL ?_; (case aL => first | omega | (simp; omega)); intro v1 w1 ho hb hg hat))
    go_ret
    exact ⟨_, rfl, ho, hb⟩
end
section
open Go.RowKit Go.Proofs.YtgipepjpkmlmaaaW.PrintWords Go.Proofs.YtgipepjpkmlmaaaW.PrintLast Go.Proofs.YtgipepjpkmlmaaaW.PrintMore
/-- The row behind a copy. -/
def laid (cur : List Value) (o : Nat) (cs : List Value) : List Value := cur.take o ++ cs ++ cur.drop (o + cs.length)
theorem laid_length (cur : List Value) (o : Nat) (cs : List Value) (h : o + cs.length ≤ cur.length) : (laid cur o cs).length = cur.length := by
  simp [laid]
  omega
section
variable {P : Program} {w : World} {ops : Array Oper} {o : Oper} {a : Act} {Q : Exit → Act → World → Prop}
theorem wpList_copy_k {rest : List Oper} (hgd : o.guard = none) (d s : Operand) (dT sT : TypeId)
    (ho : o.op = .call { callee := .builtin .copy, args := #[d, s], argTypes := #[dT, sT] }) (elem : TypeId) (sz : Nat) (hu : P.underlying dT = some (.slice elem)) (hsz : (P.info? elem).map (·.size) = some sz)
    (g off dLen dCap : Nat) (ad : Addr) (sLen sCap : Nat) (hd : a.eval d = .slice (some ⟨g, off, none⟩) dLen dCap) (hs : a.eval s = .slice (some ad) sLen sCap)
    (cur : List Value) (t : TypeId) (hg : w.heap[g]? = some (.cells cur.toArray t (0, 0))) (cs : List Value) (n : Nat) (hm : Nat.min sLen dLen = n) (hn : cs.length = n * sz)
    (hsrc : ∀ j v, cs[j]? = some v → w.cell? (ad.add j) = some v) (hfit : off + cs.length ≤ cur.length) (h1 : ∀ v ∈ cs, v.oneCell' = true)
    (h : ∀ w', w' = w.setRow g (laid cur off cs).toArray → wpList P ops Q rest (a.put o.dst (goInt n)) w') : wpList P ops Q (o :: rest) a w := by
  refine wpList_plain hgd fun K hK => ?_
  have hrun := run_copy_k (P := P) w dT sT o.type elem sz g off dLen dCap ad sLen sCap cur.toArray t cs hu hsz hg n hm hn hsrc (by simpa using hfit) h1
  unfold Oper.wp
  simp [execOp, ho, resolve, invoke, builtin, hd, hs, hrun, Result.andThen]
  exact hK _ _ (h _ (by simp [laid]))
theorem step_copy_k {K : Act → World → Prop} {E : Prop} (hgd : o.guard = none) (d s : Operand) (dT sT : TypeId)
    (ho : o.op = .call { callee := .builtin .copy, args := #[d, s], argTypes := #[dT, sT] }) (elem : TypeId) (sz : Nat) (hu : P.underlying dT = some (.slice elem)) (hsz : (P.info? elem).map (·.size) = some sz)
    (g off dLen dCap : Nat) (ad : Addr) (sLen sCap : Nat) (hd : a.eval d = .slice (some ⟨g, off, none⟩) dLen dCap) (hs : a.eval s = .slice (some ad) sLen sCap)
    (cur : List Value) (t : TypeId) (hg : w.heap[g]? = some (.cells cur.toArray t (0, 0))) (cs : List Value) (n : Nat) (hm : Nat.min sLen dLen = n) (hn : cs.length = n * sz)
    (hsrc : ∀ j v, cs[j]? = some v → w.cell? (ad.add j) = some v) (hfit : off + cs.length ≤ cur.length) (h1 : ∀ v ∈ cs, v.oneCell' = true)
    (h : ∀ w', w' = w.setRow g (laid cur off cs).toArray → K (a.put o.dst (goInt n)) w') : if Region.wanted o (yielded ops a.tmps) = true then Oper.wp P o a w K Q else E := by
  have hw : Region.wanted o (yielded ops a.tmps) = true := by simp [Region.wanted, hgd]
  rw [if_pos hw]
  have hrun := run_copy_k (P := P) w dT sT o.type elem sz g off dLen dCap ad sLen sCap cur.toArray t cs hu hsz hg n hm hn hsrc (by simpa using hfit) h1
  unfold Oper.wp
  simp [execOp, ho, resolve, invoke, builtin, hd, hs, hrun, Result.andThen]
  exact h _ (by simp [laid])
end

theorem ov_run (w : World) (a b : Addr) (la ca lb cb : Nat) (hne : a.block ≠ b.block) (ca1 cb1 : Array Value) (ha : w.heap[a.block]? = some (.cells ca1 46 (0, 0))) (hb : w.heap[b.block]? = some (.cells cb1 46 (0, 0))) (hk : cb1.size ≠ 0) :
    (callFunc 90 #[.slice (some a) la ca, .slice (some b) lb cb]).run Try.prog w = .ok (.value (.bool false)) w := by
  rw [run_callFunc_extern (e := Extern.SlicesOverlaps.overlaps #[26, 26] #[4]) Try.func90 (by kernel_rfl) rfl (by kernel_rfl) (by kernel_rfl)]
  rw [Go.Lib.run_overlaps_apart w 26 4 46 Try.underlying26 12 (fun w => by kernel_rfl) a b la ca lb cb hne 46 46 ca1.size cb1.size (by simp [World.shape?, ha]) (by simp [World.shape?, hb]) hk (by simp [World.frozen?, ha]) (by simp [World.frozen?, ha])]
  rfl
set_option maxHeartbeats 8000000 in
set_option maxRecDepth 100000 in
theorem insert_mid (B : Nat) (w0 w : World) (ok : Nat → Prop) (A : Option Addr) (c : Nat) (l : List S46) (x : S46) (gx i : Nat) (hi : i < l.length) (hl : l.length ≤ 1000000) (hR : Kd.R k46 46 w B ok (.slice A l.length c) l)
    (hx : w.heap[gx]? = some (.cells (c12 x).toArray 46 (0, 0))) (hne : ∀ k, (Value.slice A l.length c).ownBlock = some k → k ≠ gx) (hB : Below B w0 w) (hBw : B ≤ w.heap.size) (hok : ∀ k, w.heap.size ≤ k → ok k) (hroom : l.length + 1 ≤ c) :
    Calls Try.prog 71 #[.slice A l.length c, .int .i64 (i : Nat), .slice (some ⟨gx, 0, none⟩) 1 1] w fun e w' => ∃ v', e = .returned v' ∧ Kd.R k46 46 w' B ok v' (l.take i ++ x :: l.drop i) ∧ Below B w0 w' := by
  obtain ⟨g, cur, rfl, hBg, hg, hcm, hcs, htk⟩ : ∃ g cur, A = some ⟨g, 0, none⟩ ∧ B ≤ g ∧ w.heap[g]? = some (.cells cur 46 (0, 0)) ∧ c ≤ maxLen ∧ cur.size = c * 12 ∧ cur.toList.take (l.length * 12) = flat l := by
    rcases (own_of_R hR).2 with ⟨e, h0⟩ | ⟨g, cap, cur, e, h1, h2, h3, h4, h5, h6⟩
    · omega
    · cases e
      exact ⟨g, cur, rfl, h1, h2, h4, h5, h6⟩
  have hgx : g ≠ gx := hne g rfl
  have hokg := hR.1 g rfl
  have hov : ∀ n1 c1, (callFunc 90 #[.slice (some ⟨gx, 0, none⟩) 1 1, .slice (some ⟨g, (i + 1) * 12, none⟩) n1 c1]).run Try.prog w = .ok (.value (.bool false)) w := fun n1 c1 => ov_run w ⟨gx, 0, none⟩ ⟨g, (i + 1) * 12, none⟩ 1 1 n1 c1 (Ne.symm hgx) _ _ hx hg (by omega)
  have hwi : IntKind.i64.wrap ((i : Int) + 1) = (i : Int) + 1 := by rw [i64_w]; unfold wrap64; omega
  have hti : ((i : Int) + 1).toNat = i + 1 := by omega
  have hci : ¬ c = i + 1 := by omega
  have hci0 : ¬ c = i := by omega
  have hb1 : (0 : Int) ≤ (i : Int) + 1 ∧ (i : Int) + 1 ≤ (l.length : Int) + 1 := by omega
  have hb2 : (0 : Int) ≤ (i : Int) ∧ (i : Int) ≤ (l.length : Int) + 1 := by omega
  have hcl : ((l.length : Int) + 1 ≤ (c : Int)) := by omega
  have hsrc1 : ∀ (j : Nat) (v : Value), (flat (l.drop i))[j]? = some v → w.drew.cell? ((⟨g, i * 12, none⟩ : Addr).add j) = some v := by
    intro j v hv
    rw [flat_drop, ← htk, List.getElem?_drop] at hv
    have e : ((⟨g, i * 12, none⟩ : Addr).add j) = ⟨g, i * 12 + j, none⟩ := by unfold Addr.add; simp
    rw [e, blk_cell (blk_drew hg), ← Array.getElem?_toList]
    rw [List.getElem?_take] at hv
    split at hv
    · exact hv
    · cases hv
  have hcp : ∀ ty, (Builtin.copy_ #[26, 26] ty #[.slice (some ⟨g, (i + 1) * 12, none⟩) (l.length - i) (c - (i + 1)), .slice (some ⟨g, i * 12, none⟩) (l.length + 1 - i) (c - i)]).run Try.prog w.drew = .ok (goInt (l.length - i : Nat)) (w.drew.setRow g (laid cur.toList ((i + 1) * 12) (flat (l.drop i))).toArray) := fun ty =>
    run_copy_k w.drew 26 26 ty 46 12 g ((i + 1) * 12) (l.length - i) (c - (i + 1)) ⟨g, i * 12, none⟩ (l.length + 1 - i) (c - i) cur 46 (flat (l.drop i)) Try.underlying26 (by kernel_rfl) (blk_drew hg) (l.length - i) (Nat.min_eq_right (by omega)) (by rw [flat_length, List.length_drop]) hsrc1 (by rw [flat_length, List.length_drop]; omega) (fun v hv => flat_one _ v hv)
  obtain ⟨W1, hW1⟩ : ∃ W1, W1 = w.drew.setRow g (laid cur.toList ((i + 1) * 12) (flat (l.drop i))).toArray := ⟨_, rfl⟩
  have hg1 : W1.heap[g]? = some (.cells (laid cur.toList ((i + 1) * 12) (flat (l.drop i))).toArray 46 (0, 0)) := by rw [hW1]; exact setRow_heap _ _ _ _ _ _ (blk_drew hg)
  have hx1 : W1.heap[gx]? = some (.cells (c12 x).toArray 46 (0, 0)) := by rw [hW1, setRow_other _ _ _ _ (Ne.symm hgx)]; exact blk_drew hx
  have hB1 : Below B w0 W1 := by rw [hW1]; exact below_setRow (below_drew hB) hBg _
  rw [← hW1] at hcp
  clear hW1
  have hlen1 : (laid cur.toList ((i + 1) * 12) (flat (l.drop i))).length = c * 12 := by
    have hcl0 : cur.toList.length = c * 12 := by rw [Array.length_toList, hcs]
    have hh : (i + 1) * 12 + (flat (l.drop i)).length ≤ cur.toList.length := by rw [flat_length, List.length_drop, hcl0]; omega
    rw [laid_length _ _ _ hh, hcl0]
  have hsrc2 : ∀ (j : Nat) (v : Value), (c12 x)[j]? = some v → W1.cell? ((⟨gx, 0, none⟩ : Addr).add j) = some v := by
    intro j v hv
    have e : ((⟨gx, 0, none⟩ : Addr).add j) = ⟨gx, j, none⟩ := by unfold Addr.add; simp; omega
    rw [e, blk_cell hx1]
    simpa using hv
  have hcp2 : ∀ ty, (Builtin.copy_ #[26, 26] ty #[.slice (some ⟨g, i * 12, none⟩) (l.length + 1 - i) (c - i), .slice (some ⟨gx, 0, none⟩) 1 1]).run Try.prog W1 = .ok (goInt (1 : Nat)) (W1.setRow g (laid (laid cur.toList ((i + 1) * 12) (flat (l.drop i))) (i * 12) (c12 x)).toArray) := fun ty =>
    run_copy_k W1 26 26 ty 46 12 g (i * 12) (l.length + 1 - i) (c - i) ⟨gx, 0, none⟩ 1 1 (laid cur.toList ((i + 1) * 12) (flat (l.drop i))).toArray 46 (c12 x) Try.underlying26 (by kernel_rfl) hg1 1 (Nat.min_eq_left (by omega)) rfl hsrc2 (by rw [c12_length, List.size_toArray, hlen1]; omega) (fun v hv => flat_one [x] v (by simpa [flat] using hv))
  obtain ⟨W2, hW2⟩ : ∃ W2, W2 = W1.setRow g (laid (laid cur.toList ((i + 1) * 12) (flat (l.drop i))) (i * 12) (c12 x)).toArray := ⟨_, rfl⟩
  have hg2 : W2.heap[g]? = some (.cells (laid (laid cur.toList ((i + 1) * 12) (flat (l.drop i))) (i * 12) (c12 x)).toArray 46 (0, 0)) := by rw [hW2]; exact setRow_heap _ _ _ _ _ _ hg1
  have hB2 : Below B w0 W2 := by rw [hW2]; exact below_setRow hB1 hBg _
  rw [← hW2] at hcp2
  clear hW2
  have hlen2 : (laid (laid cur.toList ((i + 1) * 12) (flat (l.drop i))) (i * 12) (c12 x)).length = c * 12 := by
    rw [laid_length _ _ _ (by rw [c12_length, hlen1]; omega), hlen1]
  have hfin : (laid (laid cur.toList ((i + 1) * 12) (flat (l.drop i))) (i * 12) (c12 x)).take ((l.length + 1) * 12) = flat (l.take i ++ x :: l.drop i) := by
    have hcl0 : cur.toList.length = c * 12 := by rw [Array.length_toList, hcs]
    have t1 : (laid cur.toList ((i + 1) * 12) (flat (l.drop i))).take (i * 12) = flat (l.take i) := by
      unfold laid
      rw [List.append_assoc, List.take_append_of_le_length (by rw [List.length_take]; omega), List.take_take, Nat.min_eq_left (by omega), flat_take, ← htk, List.take_take, Nat.min_eq_left (by omega)]
    have t2 : (laid cur.toList ((i + 1) * 12) (flat (l.drop i))).drop (i * 12 + (c12 x).length) = flat (l.drop i) ++ cur.toList.drop ((i + 1) * 12 + (flat (l.drop i)).length) := by
      unfold laid
      rw [c12_length, show i * 12 + 12 = (i + 1) * 12 by omega, List.append_assoc, List.drop_append_of_le_length (by rw [List.length_take]; omega), List.drop_of_length_le (by rw [List.length_take]; omega), List.nil_append]
    have t3 : laid (laid cur.toList ((i + 1) * 12) (flat (l.drop i))) (i * 12) (c12 x) = flat (l.take i ++ x :: l.drop i) ++ cur.toList.drop ((i + 1) * 12 + (flat (l.drop i)).length) := by
      rw [show laid (laid cur.toList ((i + 1) * 12) (flat (l.drop i))) (i * 12) (c12 x) = (laid cur.toList ((i + 1) * 12) (flat (l.drop i))).take (i * 12) ++ c12 x ++ (laid cur.toList ((i + 1) * 12) (flat (l.drop i))).drop (i * 12 + (c12 x).length) from rfl, t1, t2, flat_append, flat_cons]
      simp
    rw [t3, List.take_append_of_le_length (by rw [flat_length]; simp; omega), List.take_of_length_le (by rw [flat_length]; simp; omega)]
  have hR2 : Kd.R k46 46 W2 B ok (.slice (some ⟨g, 0, none⟩) (l.length + 1) c) (l.take i ++ x :: l.drop i) := by
    have hll : (l.take i ++ x :: l.drop i).length = l.length + 1 := by simp; omega
    refine R_of_own ⟨flat_length _, .inr ⟨g, c, _, by rw [hll], hBg, hg2, by rw [hll]; omega, hcm, by rw [List.size_toArray, hlen2], ?_⟩⟩ (fun k hk => by (have e : g = k := by simpa [Value.ownBlock] using hk); subst e; exact hokg)
    rw [hll]
    exact hfin
  have HB2 := Lib.hid hB2
  have HR2 := Lib.hid hR2
  clear hB2 hR2 hfin hlen1 hlen2 hsrc2 hg2 hB1 hg1 hx1 hsrc1 hR hg hx hok hB hne htk hcs
  go_enter Try.func71, Try.ntmps71
  go_wp2
  refine wp_region_any (by kernel_rfl) ?_
  try (change wpAny _ _ _ _ _ _ _ (World.drew _))
  refine wpAny_take (i := 0) (v := ?v0_9) rfl (by kernel_rfl) (by kernel_rfl) (by kernel_rfl) (fun _ _ _ h => h) (Or.inl ⟨by first | (go_simp; done) | rfl, ?hy0_9⟩) ?_
  case hy0_9 => intro w_; first | (go_simp; done) | (go_simp; with_reducible rfl)
  refine wpAny_take (i := 1) (v := ?v1_10) rfl (by kernel_rfl) (by kernel_rfl) (by kernel_rfl) (fun _ _ _ h => h) (Or.inl ⟨by first | (go_simp; done) | rfl, ?hy1_10⟩) ?_
  case hy1_10 => intro w_; first | (go_simp; done) | (go_simp; with_reducible rfl)
  refine wpAny_take (i := 2) (v := ?v2_11) rfl (by kernel_rfl) (by kernel_rfl) (by kernel_rfl) (fun _ _ _ h => h) (Or.inl ⟨by first | (go_simp; done) | rfl, ?hy2_11⟩) ?_
  case hy2_11 => intro w_; first | (go_simp; done) | (go_simp; with_reducible rfl)
  refine wpAny_take (i := 3) (v := ?v3_12) rfl (by kernel_rfl) (by kernel_rfl) (by kernel_rfl) (fun _ _ _ h => h) (Or.inl ⟨by first | (go_simp; done) | rfl, ?hy3_12⟩) ?_
  case hy3_12 => intro w_; first | (go_simp; done) | (go_simp; with_reducible rfl)
  refine wpAny_take (i := 4) (v := ?v4_13) rfl (by kernel_rfl) (by kernel_rfl) (by kernel_rfl) (fun _ _ _ h => h) (Or.inl ⟨by first | (go_simp; done) | rfl, ?hy4_13⟩) ?_
  case hy4_13 => intro w_; first | (go_simp; done) | (go_simp; with_reducible rfl)
  refine wpAny_take (i := 5) (v := ?v5_14) rfl (by kernel_rfl) (by kernel_rfl) (by kernel_rfl) (fun _ _ _ h => h) (Or.inl ⟨by first | (go_simp; done) | rfl, ?hy5_14⟩) ?_
  case hy5_14 => intro w_; first | (go_simp; done) | (go_simp; with_reducible rfl)
  refine wpAny_take (i := 6) (v := ?v6_15) rfl (by kernel_rfl) (by kernel_rfl) (by kernel_rfl) (fun _ _ _ h => h) (Or.inl ⟨by first | (go_simp; done) | rfl, ?hy6_15⟩) ?_
  case hy6_15 => intro w_; first | (go_simp; done) | (go_simp; with_reducible rfl)
  refine wpAny_take (i := 7) (v := ?v7_16) rfl (by kernel_rfl) (by kernel_rfl) (by kernel_rfl) (fun _ _ _ h => h) (Or.inl ⟨by first | (go_simp; done) | rfl, ?hy7_16⟩) ?_
  case hy7_16 => intro w_; first | (go_simp; done) | (go_simp; with_reducible rfl)
  refine wpAny_ready (rs := [8]) (by kernel_rfl) (by simp) ?_
  refine (AllReady.cons rfl (fun K hK => ?_) AllReady.nil)
  · go_simp
    refine hK _ _ ?_
    clear hK K
    refine wpAny_done (by kernel_rfl) ?_ _
    try go_simp
    go_wp2
    go_ret
    exact ⟨_, rfl, HR2.out, HB2.out⟩
end
section
open Go.RowKit Go.Proofs.YtgipepjpkmlmaaaW.PrintWords Go.Proofs.YtgipepjpkmlmaaaW.PrintLast Go.Proofs.YtgipepjpkmlmaaaW.PrintMore
theorem wpList_append_run {P : Program} {w : World} {ops : Array Oper} {rest : List Oper} {o : Oper} {a : Act} {Q : Exit → Act → World → Prop} (hgd : o.guard = none) (d s : Operand) (dT sT : TypeId)
    (ho : o.op = .call { callee := .builtin .append, args := #[d, s], argTypes := #[dT, sT] }) (vd vs v : Value) (hd : a.eval d = vd) (hs : a.eval s = vs) (w1 : World)
    (hrun : ∀ ty, (Builtin.append_ #[dT, sT] ty #[vd, vs]).run P w = .ok v w1) (h : wpList P ops Q rest (a.put o.dst v) w1) : wpList P ops Q (o :: rest) a w := by
  refine wpList_plain hgd fun K hK => ?_
  have hr := hrun o.type
  unfold Oper.wp
  simp [execOp, ho, resolve, invoke, builtin, hd, hs, hr, Result.andThen]
  exact hK _ _ h
theorem zc_size (z : Array Value) (n : Nat) : (Builtin.zeroCells z n).size = n * z.size := by simp [Builtin.zeroCells]
set_option maxHeartbeats 8000000 in
set_option maxRecDepth 100000 in
theorem insert_grow (B : Nat) (w0 w : World) (ok : Nat → Prop) (A : Option Addr) (c : Nat) (l : List S46) (x : S46) (gx i : Nat) (hi : i < l.length) (hl : l.length ≤ 1000000) (hR : Kd.R k46 46 w B ok (.slice A l.length c) l)
    (hx : w.heap[gx]? = some (.cells (c12 x).toArray 46 (0, 0))) (hB : Below B w0 w) (hBw : B ≤ w.heap.size) (hok : ∀ k, w.heap.size ≤ k → ok k) (hroom : ¬ l.length + 1 ≤ c) :
    Calls Try.prog 71 #[.slice A l.length c, .int .i64 (i : Nat), .slice (some ⟨gx, 0, none⟩) 1 1] w fun e w' => ∃ v', e = .returned v' ∧ Kd.R k46 46 w' B ok v' (l.take i ++ x :: l.drop i) ∧ Below B w0 w' := by
  obtain ⟨g, cur, rfl, hBg, hg, hnc, hcm, hcs, htk⟩ : ∃ g cur, A = some ⟨g, 0, none⟩ ∧ B ≤ g ∧ w.heap[g]? = some (.cells cur 46 (0, 0)) ∧ l.length ≤ c ∧ c ≤ maxLen ∧ cur.size = c * 12 ∧ cur.toList.take (l.length * 12) = flat l := by
    rcases (own_of_R hR).2 with ⟨e, h0⟩ | ⟨g, cap, cur, e, h1, h2, h3, h4, h5, h6⟩
    · omega
    · cases e
      exact ⟨g, cur, rfl, h1, h2, h3, h4, h5, h6⟩
  obtain rfl : c = l.length := by omega
  have hwi : IntKind.i64.wrap ((i : Int) + 1) = (i : Int) + 1 := by rw [i64_w]; unfold wrap64; omega
  have hti : ((i : Int) + 1).toNat = i + 1 := by omega
  have hlg : g < w.heap.size := blk_lt hg
  have hlx : gx < w.heap.size := blk_lt hx
  obtain ⟨i46, hi46, hi46b⟩ := Option.map_eq_some_iff.1 info46
  simp only [Prod.mk.injEq] at hi46b
  obtain ⟨hiz, his, hib⟩ := hi46b
  have hsrc0 : ∀ (j : Nat) (v : Value), (flat (l.take i))[j]? = some v → w.cell? ((⟨g, 0, none⟩ : Addr).add j) = some v := by
    intro j v hv
    rw [flat_take, ← htk, List.getElem?_take] at hv
    have e : ((⟨g, 0, none⟩ : Addr).add j) = ⟨g, j, none⟩ := by unfold Addr.add; simp; omega
    rw [e, blk_cell hg, ← Array.getElem?_toList]
    split at hv
    · rw [List.getElem?_take] at hv
      split at hv
      · exact hv
      · cases hv
    · cases hv
  have happ := fun ty => run_append_make w 26 3 ty 46 i46 _ .i64 Try.underlying26 (by kernel_rfl) hi46 hiz ⟨g, 0, none⟩ i l.length (flat (l.take i)) (by rw [flat_length, List.length_take, his]; omega) hsrc0 (l.length + 1 - i) (by rw [his]; omega) (by omega) (by rw [hib]; omega) (by omega) (by omega) (growslice_fits (by omega) (by rw [hib]; omega))
  have hcapge := grownCap_ge w (i + (l.length + 1 - i)) l.length 46
  have hcaple := grownCap_le_maxLen w (i + (l.length + 1 - i)) l.length 46 (by unfold maxLen; omega)
  revert happ hcapge hcaple
  generalize grownCap w (i + (l.length + 1 - i)) l.length 46 = N
  rw [show i + (l.length + 1 - i) = l.length + 1 by omega, show ((l.length + 1 - i : Nat) : Int) = (l.length : Int) + 1 - (i : Int) by omega]
  generalize hcur : (flat (l.take i)).toArray ++ Builtin.zeroCells (Value.agg #[.int .i64 0, .int .i64 0, .int .i64 0, .int .i64 0, .int .i64 0, .int .i64 0, .int .i64 0, .int .i64 0, .int .i64 0, .int .i64 0, .int .i64 0, .int .i64 0]).cells (l.length + 1 - i) ++ Builtin.zeroCells (Value.agg #[.int .i64 0, .int .i64 0, .int .i64 0, .int .i64 0, .int .i64 0, .int .i64 0, .int .i64 0, .int .i64 0, .int .i64 0, .int .i64 0, .int .i64 0, .int .i64 0]).cells (N - (l.length + 1)) = cur2
  intro happ hcapge hcaple
  obtain ⟨W0, hW0⟩ : ∃ W0, W0 = w.drew.alloc (.cells cur2 46) := ⟨_, rfl⟩
  have hz1 : ∀ n, (Builtin.zeroCells (Value.agg #[.int .i64 0, .int .i64 0, .int .i64 0, .int .i64 0, .int .i64 0, .int .i64 0, .int .i64 0, .int .i64 0, .int .i64 0, .int .i64 0, .int .i64 0, .int .i64 0]).cells n).size = n * 12 := fun n => by rw [zc_size]; rfl
  have hsz2 : cur2.size = N * 12 := by
    rw [← hcur, Array.size_append, Array.size_append, hz1, hz1, List.size_toArray, flat_length, List.length_take]
    omega
  have hsl : cur2.toList.length = N * 12 := by rw [Array.length_toList, hsz2]
  have htk2 : cur2.toList.take (i * 12) = flat (l.take i) := by
    rw [← hcur]
    simp only [Array.toList_append]
    rw [List.append_assoc, List.take_append_of_le_length (by rw [flat_length, List.length_take]; omega), List.take_of_length_le (by rw [flat_length, List.length_take]; omega)]
  clear hcur hz1
  have h0g : W0.heap[w.heap.size]? = some (.cells cur2 46 (0, 0)) := by rw [hW0]; exact heap_alloc_new w.drew _
  have h0x : W0.heap[gx]? = some (.cells (c12 x).toArray 46 (0, 0)) := by rw [hW0]; exact blk_alloc (blk_drew hx) _
  have h0s : W0.heap[g]? = some (.cells cur 46 (0, 0)) := by rw [hW0]; exact blk_alloc (blk_drew hg) _
  have hB0 : Below B w0 W0 := by rw [hW0]; exact Below.alloc (below_drew hB) hBw _
  rw [← hW0] at happ
  clear hW0 hsrc0
  have hsrc2 : ∀ (j : Nat) (v : Value), (c12 x)[j]? = some v → W0.cell? ((⟨gx, 0, none⟩ : Addr).add j) = some v := by
    intro j v hv
    have e : ((⟨gx, 0, none⟩ : Addr).add j) = ⟨gx, j, none⟩ := by unfold Addr.add; simp; omega
    rw [e, blk_cell h0x]
    simpa using hv
  have hcp1 : ∀ ty, (Builtin.copy_ #[26, 26] ty #[.slice (some ⟨w.heap.size, i * 12, none⟩) (l.length + 1 - i) (N - i), .slice (some ⟨gx, 0, none⟩) 1 1]).run Try.prog W0 = .ok (goInt (1 : Nat)) (W0.setRow w.heap.size (laid cur2.toList (i * 12) (c12 x)).toArray) := fun ty =>
    run_copy_k W0 26 26 ty 46 12 w.heap.size (i * 12) (l.length + 1 - i) (N - i) ⟨gx, 0, none⟩ 1 1 cur2 46 (c12 x) Try.underlying26 (by kernel_rfl) h0g 1 (Nat.min_eq_left (by omega)) rfl hsrc2 (by rw [c12_length, hsz2]; omega) (fun v hv => flat_one [x] v (by simpa [flat] using hv))
  obtain ⟨W1, hW1⟩ : ∃ W1, W1 = W0.setRow w.heap.size (laid cur2.toList (i * 12) (c12 x)).toArray := ⟨_, rfl⟩
  have h1g : W1.heap[w.heap.size]? = some (.cells (laid cur2.toList (i * 12) (c12 x)).toArray 46 (0, 0)) := by rw [hW1]; exact setRow_heap _ _ _ _ _ _ h0g
  have h1s : W1.heap[g]? = some (.cells cur 46 (0, 0)) := by rw [hW1, setRow_other _ _ _ _ (by omega)]; exact h0s
  have hB1 : Below B w0 W1 := by rw [hW1]; exact below_setRow hB0 hBw _
  rw [← hW1] at hcp1
  clear hW1
  have hlen1 : (laid cur2.toList (i * 12) (c12 x)).length = N * 12 := by
    rw [laid_length _ _ _ (by rw [c12_length, hsl]; omega), hsl]
  have hsrc3 : ∀ (j : Nat) (v : Value), (flat (l.drop i))[j]? = some v → W1.drew.cell? ((⟨g, i * 12, none⟩ : Addr).add j) = some v := by
    intro j v hv
    rw [flat_drop, ← htk, List.getElem?_drop] at hv
    have e : ((⟨g, i * 12, none⟩ : Addr).add j) = ⟨g, i * 12 + j, none⟩ := by unfold Addr.add; simp
    rw [e, blk_cell (blk_drew h1s), ← Array.getElem?_toList]
    rw [List.getElem?_take] at hv
    split at hv
    · exact hv
    · cases hv
  have hcp2 : ∀ ty, (Builtin.copy_ #[26, 26] ty #[.slice (some ⟨w.heap.size, (i + 1) * 12, none⟩) (l.length - i) (N - (i + 1)), .slice (some ⟨g, i * 12, none⟩) (l.length - i) (l.length - i)]).run Try.prog W1.drew = .ok (goInt (l.length - i : Nat)) (W1.drew.setRow w.heap.size (laid (laid cur2.toList (i * 12) (c12 x)) ((i + 1) * 12) (flat (l.drop i))).toArray) := fun ty =>
    run_copy_k W1.drew 26 26 ty 46 12 w.heap.size ((i + 1) * 12) (l.length - i) (N - (i + 1)) ⟨g, i * 12, none⟩ (l.length - i) (l.length - i) (laid cur2.toList (i * 12) (c12 x)).toArray 46 (flat (l.drop i)) Try.underlying26 (by kernel_rfl) (blk_drew h1g) (l.length - i) (Nat.min_self _) (by rw [flat_length, List.length_drop]) hsrc3 (by rw [flat_length, List.length_drop, List.size_toArray, hlen1]; omega) (fun v hv => flat_one _ v hv)
  obtain ⟨W2, hW2⟩ : ∃ W2, W2 = W1.drew.setRow w.heap.size (laid (laid cur2.toList (i * 12) (c12 x)) ((i + 1) * 12) (flat (l.drop i))).toArray := ⟨_, rfl⟩
  have h2g : W2.heap[w.heap.size]? = some (.cells (laid (laid cur2.toList (i * 12) (c12 x)) ((i + 1) * 12) (flat (l.drop i))).toArray 46 (0, 0)) := by rw [hW2]; exact setRow_heap _ _ _ _ _ _ (blk_drew h1g)
  have hB2 : Below B w0 W2 := by rw [hW2]; exact below_setRow (below_drew hB1) hBw _
  rw [← hW2] at hcp2
  clear hW2
  have hlen2 : (laid (laid cur2.toList (i * 12) (c12 x)) ((i + 1) * 12) (flat (l.drop i))).length = N * 12 := by
    rw [laid_length _ _ _ (by rw [flat_length, List.length_drop, hlen1]; omega), hlen1]
  have hfin : (laid (laid cur2.toList (i * 12) (c12 x)) ((i + 1) * 12) (flat (l.drop i))).take ((l.length + 1) * 12) = flat (l.take i ++ x :: l.drop i) := by
    have t1 : (laid cur2.toList (i * 12) (c12 x)).take ((i + 1) * 12) = flat (l.take i) ++ c12 x := by
      unfold laid
      rw [List.take_append_of_le_length (by rw [List.length_append, List.length_take, c12_length]; omega), List.take_of_length_le (by rw [List.length_append, List.length_take, c12_length]; omega), htk2]
    have t3 : ∃ rest, laid (laid cur2.toList (i * 12) (c12 x)) ((i + 1) * 12) (flat (l.drop i)) = flat (l.take i ++ x :: l.drop i) ++ rest := by
      refine ⟨(laid cur2.toList (i * 12) (c12 x)).drop ((i + 1) * 12 + (flat (l.drop i)).length), ?_⟩
      rw [show laid (laid cur2.toList (i * 12) (c12 x)) ((i + 1) * 12) (flat (l.drop i)) = (laid cur2.toList (i * 12) (c12 x)).take ((i + 1) * 12) ++ flat (l.drop i) ++ (laid cur2.toList (i * 12) (c12 x)).drop ((i + 1) * 12 + (flat (l.drop i)).length) from rfl, t1, flat_append, flat_cons]
      simp
    obtain ⟨rest, t3⟩ := t3
    rw [t3, List.take_append_of_le_length (by rw [flat_length]; simp; omega), List.take_of_length_le (by rw [flat_length]; simp; omega)]
  have hR2 : Kd.R k46 46 W2 B ok (.slice (some ⟨w.heap.size, 0, none⟩) (l.length + 1) N) (l.take i ++ x :: l.drop i) := by
    have hll : (l.take i ++ x :: l.drop i).length = l.length + 1 := by simp; omega
    refine R_of_own ⟨flat_length _, .inr ⟨w.heap.size, N, _, by rw [hll], hBw, h2g, by rw [hll]; omega, hcaple, by rw [List.size_toArray, hlen2], ?_⟩⟩ (fun k hk => by (have e : w.heap.size = k := by simpa [Value.ownBlock] using hk); exact hok k (by omega))
    rw [hll]
    exact hfin
  have HB2 := Lib.hid hB2
  have HR2 := Lib.hid hR2
  have hNi : ¬ N = i := by omega
  have hNi1 : ¬ N = i + 1 := by omega
  have hli : ¬ l.length = i := by omega
  have hb1 : (0 : Int) ≤ (i : Int) + 1 ∧ (i : Int) + 1 ≤ (l.length : Int) + 1 := by omega
  have hb2 : (0 : Int) ≤ (i : Int) ∧ (i : Int) ≤ (l.length : Int) + 1 := by omega
  have hb3 : (0 : Int) ≤ (i : Int) ∧ (i : Int) ≤ (l.length : Int) := by omega
  clear hB2 hR2 hfin hlen1 hlen2 hsrc2 hsrc3 h2g hB1 h1g h1s hB0 h0g h0x h0s hR hg hx hok hB htk hcs htk2 hsl hsz2 hroom hi46 hiz his hib
  go_enter Try.func71, Try.ntmps71
  go_wp2_with (first | ((with_reducible refine gate_builtin (b := .append) (xs := #[.tmp 34, .tmp 39]) rfl ?_); at_builtin; refine wpList_append_run rfl (.tmp 34) (.tmp 39) 26 3 rfl _ _ _ rfl rfl W0 happ ?_))
  refine wp_region_any (by kernel_rfl) ?_
  try (change wpAny _ _ _ _ _ _ _ (World.drew _))
  refine wpAny_take (i := 0) (v := ?v0_1) rfl (by kernel_rfl) (by kernel_rfl) (by kernel_rfl) (fun _ _ _ h => h) (Or.inl ⟨by first | (go_simp; done) | rfl, ?hy0_1⟩) ?_
  case hy0_1 => intro w_; first | (go_simp; done) | (go_simp; with_reducible rfl)
  refine wpAny_take (i := 1) (v := ?v1_2) rfl (by kernel_rfl) (by kernel_rfl) (by kernel_rfl) (fun _ _ _ h => h) (Or.inl ⟨by first | (go_simp; done) | rfl, ?hy1_2⟩) ?_
  case hy1_2 => intro w_; first | (go_simp; done) | (go_simp; with_reducible rfl)
  refine wpAny_take (i := 2) (v := ?v2_3) rfl (by kernel_rfl) (by kernel_rfl) (by kernel_rfl) (fun _ _ _ h => h) (Or.inl ⟨by first | (go_simp; done) | rfl, ?hy2_3⟩) ?_
  case hy2_3 => intro w_; first | (go_simp; done) | (go_simp; with_reducible rfl)
  refine wpAny_take (i := 3) (v := ?v3_4) rfl (by kernel_rfl) (by kernel_rfl) (by kernel_rfl) (fun _ _ _ h => h) (Or.inl ⟨by first | (go_simp; done) | rfl, ?hy3_4⟩) ?_
  case hy3_4 => intro w_; first | (go_simp; done) | (go_simp; with_reducible rfl)
  refine wpAny_take (i := 4) (v := ?v4_5) rfl (by kernel_rfl) (by kernel_rfl) (by kernel_rfl) (fun _ _ _ h => h) (Or.inl ⟨by first | (go_simp; done) | rfl, ?hy4_5⟩) ?_
  case hy4_5 => intro w_; first | (go_simp; done) | (go_simp; with_reducible rfl)
  refine wpAny_take (i := 5) (v := ?v5_6) rfl (by kernel_rfl) (by kernel_rfl) (by kernel_rfl) (fun _ _ _ h => h) (Or.inl ⟨by first | (go_simp; done) | rfl, ?hy5_6⟩) ?_
  case hy5_6 => intro w_; first | (go_simp; done) | (go_simp; with_reducible rfl)
  refine wpAny_take (i := 6) (v := ?v6_7) rfl (by kernel_rfl) (by kernel_rfl) (by kernel_rfl) (fun _ _ _ h => h) (Or.inl ⟨by first | (go_simp; done) | rfl, ?hy6_7⟩) ?_
  case hy6_7 => intro w_; first | (go_simp; done) | (go_simp; with_reducible rfl)
  refine wpAny_take (i := 7) (v := ?v7_8) rfl (by kernel_rfl) (by kernel_rfl) (by kernel_rfl) (fun _ _ _ h => h) (Or.inl ⟨by first | (go_simp; done) | rfl, ?hy7_8⟩) ?_
  case hy7_8 => intro w_; first | (go_simp; done) | (go_simp; with_reducible rfl)
  refine wpAny_ready (rs := [8]) (by kernel_rfl) (by simp) ?_
  refine (AllReady.cons rfl (fun K hK => ?_) AllReady.nil)
  · go_simp
    refine hK _ _ ?_
    clear hK K
    refine wpAny_done (by kernel_rfl) ?_ _
    try go_simp
    go_wp2
    go_ret
    exact ⟨_, rfl, HR2.out, HB2.out⟩
end
section
open Go.RowKit Go.Proofs.YtgipepjpkmlmaaaW.PrintWords Go.Proofs.YtgipepjpkmlmaaaW.PrintLast Go.Proofs.YtgipepjpkmlmaaaW.PrintMore
theorem insert_calls (B : Nat) (w0 w : World) (ok : Nat → Prop) (A : Option Addr) (c : Nat) (l : List S46) (x : S46) (gx i : Nat) (hi : i ≤ l.length) (hl : l.length ≤ 1000000) (hR : Kd.R k46 46 w B ok (.slice A l.length c) l)
    (hx : w.heap[gx]? = some (.cells (c12 x).toArray 46 (0, 0))) (hne : ∀ k, (Value.slice A l.length c).ownBlock = some k → k ≠ gx) (hB : Below B w0 w) (hBw : B ≤ w.heap.size) (hok : ∀ k, w.heap.size ≤ k → ok k) :
    Calls Try.prog 71 #[.slice A l.length c, .int .i64 (i : Nat), .slice (some ⟨gx, 0, none⟩) 1 1] w fun e w' => ∃ v', e = .returned v' ∧ Kd.R k46 46 w' B ok v' (l.take i ++ x :: l.drop i) ∧ Below B w0 w' := by
  by_cases h : i < l.length
  · by_cases hr : l.length + 1 ≤ c
    · exact insert_mid B w0 w ok A c l x gx i h hl hR hx hne hB hBw hok hr
    · exact insert_grow B w0 w ok A c l x gx i h hl hR hx hB hBw hok hr
  · obtain rfl : i = l.length := by omega
    have := insert_end B w0 w ok A c l x gx hl hR hx hB hBw hok
    rwa [List.take_length, List.drop_length]
/-- A window's numbers, with one more, at every start. -/
def takeP (key v : Int) : List Int → List S46 → List S46
  | [], l => l
  | t :: ts, l =>
    let x : S46 := ⟨key, t, ⟨0, 0, 0, 0, ⟨0, 0, 0, 0⟩, 0, 0⟩⟩
    let l2 := if bsF l x = true then l else l.take (bsI l x) ++ x :: l.drop (bsI l x)
    let y := rd_T46 l2 (bsI l x : Int)
    takeP key v ts (l2.set (bsI l x) ⟨y.f0, y.f1, addP y.f2 v⟩)
end
end Go.Proofs.Ytgipepjpkmlmaaa.P
