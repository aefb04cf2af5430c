import Derived.Test.YtgipepjpkmlmaaaE40
import Derived.Test.YtgipepjpkmlmaaaE39
import Derived.Test.YtgipepjpkmlmaaaE12
namespace Go.Proofs.Ytgipepjpkmlmaaa.P
set_option linter.unusedVariables false
set_option linter.unusedSimpArgs false
section
open Go.RowKit Go.Proofs.YtgipepjpkmlmaaaW.PrintWords Go.Proofs.YtgipepjpkmlmaaaW.PrintLast Go.Proofs.YtgipepjpkmlmaaaW.PrintMore

theorem and_range (x : Int) (m : Nat) (hm : m < 9223372036854775808) : 0 ≤ bits .and .i64 x (m : Int) ∧ bits .and .i64 x (m : Int) ≤ (m : Int) := by
  have hb : bits .and .i64 x (m : Int) = IntKind.i64.wrap (((BitVec.ofInt 64 x &&& BitVec.ofInt 64 (m : Int)).toNat : Nat) : Int) := rfl
  have hle : (BitVec.ofInt 64 x &&& BitVec.ofInt 64 (m : Int)).toNat ≤ m := by
    rw [BitVec.toNat_and]
    refine Nat.le_trans Nat.and_le_right ?_
    rw [BitVec.toNat_ofInt]
    omega
  rw [hb, IntKind.wrap_i64]
  omega
/-- The text of a number. -/
def txtP (v : Int) : ByteArray := (headgateref01_Put.f 11 v).getD ⟨#[]⟩
theorem txtP_spec (v : Int) (h0 : -9223372036854775808 ≤ v) (h1 : v ≤ 9223372036854775807) : headgateref01_Put.f 11 v = some (txtP v) ∧ valP (txtP v) = (v, true) ∧ (txtP v).size ≤ 10 := by
  obtain ⟨s, h, h2, h3⟩ := put_val v h0 h1
  have e : txtP v = s := by unfold txtP; rw [h]; rfl
  rw [e]
  exact ⟨h, h2, h3⟩
/-- A beat's key, and how long it waits. -/
def keyB (b : S23) : Int := bits .and .i64 b.f0 1
def waitB (b : S23) : Int := bits .and .i64 b.f1 15
theorem keyB_range (b : S23) : 0 ≤ keyB b ∧ keyB b ≤ 1 := and_range b.f0 1 (by decide)
theorem waitB_range (b : S23) : 0 ≤ waitB b ∧ waitB b ≤ 15 := and_range b.f1 15 (by decide)
/-- The beats' records, the first of them behind moment t. -/
def beatsL : Int → List S23 → List S50
  | _, [] => []
  | t, b :: bs => ⟨keyB b, t + waitB b, txtP b.f2⟩ :: beatsL (t + waitB b) bs
def timeB : Int → List S23 → Int
  | t, [] => t
  | t, b :: bs => timeB (t + waitB b) bs
theorem timeB_snoc : ∀ (bs : List S23) (t : Int) (b : S23), timeB t (bs ++ [b]) = timeB t bs + waitB b
  | [], t, b => rfl
  | c :: bs, t, b => timeB_snoc bs (t + waitB c) b
theorem beatsL_snoc : ∀ (bs : List S23) (t : Int) (b : S23), beatsL t (bs ++ [b]) = beatsL t bs ++ [⟨keyB b, timeB t bs + waitB b, txtP b.f2⟩]
  | [], t, b => rfl
  | c :: bs, t, b => by
    rw [List.cons_append, beatsL, beatsL_snoc bs (t + waitB c) b]
    rfl
theorem timeB_range : ∀ (bs : List S23) (t : Int), t ≤ timeB t bs ∧ timeB t bs ≤ t + 15 * bs.length
  | [], t => by simp [timeB]
  | b :: bs, t => by
    have h := timeB_range bs (t + waitB b)
    have hw := waitB_range b
    rw [timeB, List.length_cons]
    omega
theorem beatsL_length : ∀ (bs : List S23) (t : Int), (beatsL t bs).length = bs.length
  | [], t => rfl
  | b :: bs, t => by rw [beatsL, List.length_cons, List.length_cons, beatsL_length bs]
theorem beats_chain : ∀ (bs : List S23) (t τ : Int), (∀ b ∈ bs, -9223372036854775808 ≤ b.f2 ∧ b.f2 ≤ 9223372036854775807) → (τ = t ∨ τ = -1) → 0 ≤ t → t + 15 * bs.length ≤ 1099511627776 → chainT τ (beatsL t bs)
  | [], t, τ, _, _, _, _ => trivial
  | b :: bs, t, τ, hv, hτ, h0, h1 => by
    rw [List.length_cons] at h1
    have hw := waitB_range b
    have hk := keyB_range b
    obtain ⟨v0, v1⟩ := hv b List.mem_cons_self
    have hs := (txtP_spec b.f2 v0 v1).2.1
    refine ⟨⟨hk.1, hk.2, by show 0 ≤ t + waitB b; omega, by show t + waitB b ≤ 1099511627776; omega, by show (valP (txtP b.f2)).2 = true; rw [hs]⟩, by show τ ≤ t + waitB b; omega, ?_, ?_⟩
    · rcases hτ with rfl | rfl
      · exact .inr (by show τ + waitB b ≤ τ + 15; omega)
      · exact .inl rfl
    · exact beats_chain bs (t + waitB b) (t + waitB b) (fun c hc => hv c (List.mem_cons_of_mem _ hc)) (.inl rfl) (by omega) (by omega)
theorem beats_vals : ∀ (bs : List S23) (t : Int), (∀ b ∈ bs, -9223372036854775808 ≤ b.f2 ∧ b.f2 ≤ 9223372036854775807) → (beatsL t bs).map (fun r => (valP r.f2).1) = bs.map (fun b => b.f2)
  | [], t, _ => rfl
  | b :: bs, t, hv => by
    obtain ⟨v0, v1⟩ := hv b List.mem_cons_self
    rw [beatsL, List.map_cons, List.map_cons, beats_vals bs _ (fun c hc => hv c (List.mem_cons_of_mem _ hc))]
    show (valP (txtP b.f2)).1 :: _ = _
    rw [(txtP_spec b.f2 v0 v1).2.1]
theorem beats_size : ∀ (bs : List S23) (t : Int), (∀ b ∈ bs, -9223372036854775808 ≤ b.f2 ∧ b.f2 ≤ 9223372036854775807) → ∀ r ∈ beatsL t bs, r.f2.size ≤ 10
  | [], t, _, r, h => absurd h List.not_mem_nil
  | b :: bs, t, hv, r, h => by
    obtain ⟨v0, v1⟩ := hv b List.mem_cons_self
    rcases List.mem_cons.1 h with rfl | h
    · exact (txtP_spec b.f2 v0 v1).2.2
    · exact beats_size bs _ (fun c hc => hv c (List.mem_cons_of_mem _ hc)) r h
/-- The numbers that are a window's, of the records and their numbers so far. -/
def mineL (g : S23) (c : S46) (rs : List S50) (vs : List Int) (k : Nat) : List Int := ((rs.take k).zip (vs.take k)).filterMap (fun p => if inW g c p.1 = true then some p.2 else none)
theorem zip_vals : ∀ (rs : List S50) (g : S23) (c : S46), (rs.zip (rs.map (fun r => (valP r.f2).1))).filterMap (fun p => if inW g c p.1 = true then some p.2 else none) = mineP g c rs
  | [], g, c => rfl
  | r :: rs, g, c => by
    have h := zip_vals rs g c
    unfold mineP at h ⊢
    rw [List.map_cons, List.zip_cons_cons, List.filterMap_cons, List.filter_cons]
    cases hw : inW g c r
    · simp only [Bool.false_eq_true, if_false]
      exact h
    · simp only [if_true, List.map_cons]
      rw [h]
theorem mineL_end (g : S23) (c : S46) (rs : List S50) (vs : List Int) (h : rs.map (fun r => (valP r.f2).1) = vs) (k : Nat) (hk : rs.length ≤ k) : mineL g c rs vs k = mineP g c rs := by
  unfold mineL
  subst h
  rw [List.take_of_length_le hk, List.take_of_length_le (by rw [List.length_map]; exact hk)]
  exact zip_vals rs g c
theorem mineL_step (g : S23) (c : S46) (rs : List S50) (vs : List Int) (k : Nat) (h1 : k < rs.length) (h2 : k < vs.length) : mineL g c rs vs (k + 1) = mineL g c rs vs k ++ if inW g c rs[k] = true then [vs[k]] else [] := by
  unfold mineL
  rw [List.take_succ_eq_append_getElem h1, List.take_succ_eq_append_getElem h2, List.zip_append (by simp [List.length_take]; omega), List.filterMap_append]
  congr 1
  cases hw : inW g c rs[k] <;> simp [hw]
/-- All of the law's count. -/
theorem whole_count {g : S23} {rs : List S50} {s : S28} {all : List S46} (h : WholeI g rs s all) (hl : rs.length ≤ 1000) : ((all ++ s.f4).map (fun c => ((mineP g c rs).length : Int))).sum = (rs.map (fun r => ((startsP g r.f1).length : Int))).sum := by
  rw [← h.cnt]
  unfold cntC
  congr 1
  refine List.map_congr_left (fun c hc => ?_)
  have hle : (mineP g c rs).length ≤ 1000 := by
    unfold mineP
    rw [List.length_map]
    exact Nat.le_trans (List.length_filter_le _ _) hl
  rw [h.agg c hc, (allA_cnt (mineP g c rs) (by omega)).2]
end
section
open Go.RowKit Go.Proofs.YtgipepjpkmlmaaaW.PrintWords Go.Proofs.YtgipepjpkmlmaaaW.PrintLast Go.Proofs.YtgipepjpkmlmaaaW.PrintMore

open Go.ChangeShapes Go.WideShapes
section
variable {H : Type} {enc : TypeId × Value → H} {w : World} {base : Nat} {spare : Nat → Bool} {held : Bool}
theorem open_rowR {α : Type} [Inhabited α] (d : Kd α) (R : α → Prop) {t e : TypeId} {fuel : Nat} {a : Option Addr} {len cap : Nat} {x : DataW H × List MemPlace} (ht : Try.prog.underlying t = some (.slice e)) (hc : Try.prog.cellsOf e = d.sz)
    (each : ∀ n cs y, n < fuel → DataW.trod enc Try.prog w base spare held n e cs = some y → ∃ p : α, d.K w p cs ∧ R p)
    (h : DataW.trod enc Try.prog w base spare held fuel t [.slice a len cap] = some x) : ∃ xs : List α, xs.length = len ∧ len ≤ cap ∧ cap ≤ maxLen ∧ d.C w a len xs ∧ ∀ p ∈ xs, R p := by
  rcases DataW.trod_slice ht h with ⟨h0, _⟩ | ⟨b, len', cap', elems, rest, n, hn, he, _, hb, hl, hm, hlen, hel, _, _⟩
  · injection h0 with h0 _
    injection h0 with h1 h2 h3
    subst h1 h2 h3
    exact ⟨[], rfl, Nat.le_refl _, Nat.zero_le _, ⟨rfl, by omega, fun h => absurd h (Nat.lt_irrefl 0)⟩, fun p h => absurd h List.not_mem_nil⟩
  · injection he with he _
    injection he with h1 h2 h3
    subst h1 h2 h3
    have hx : ∀ i, i < len → ∃ p : α × List Value, p.2.length = d.sz ∧ d.K w p.1 p.2 ∧ R p.1 ∧ ∀ j u, p.2[j]? = some u → w.cell? (b.add (i * d.sz + j)) = some u := by
      intro i hi
      have h1 := hel i hi
      rw [List.getElem?_eq_getElem (by omega)] at h1
      obtain ⟨cs, h2, h3⟩ := Option.bind_eq_some_iff.1 h1
      obtain ⟨p, hp, hRp⟩ := each n cs _ (by omega) h3
      obtain ⟨_, hl2, hcell⟩ := World.cells?_some h2
      rw [hc] at hl2 hcell
      refine ⟨(p, cs), hl2, hp, hRp, fun j u hj => ?_⟩
      have hj' : cs[j]? = some u := hj
      have hjl : j < cs.length := by
        rcases Nat.lt_or_ge j cs.length with h | h
        · exact h
        · rw [List.getElem?_eq_none h] at hj'; cases hj'
      rw [← add_add, hcell j (by omega)]
      exact hj'
    obtain ⟨V, hV⟩ := Go.Deep.choose_lt hx
    refine ⟨(List.range len).map fun i => (V i).1, by simp, hl, hm, ⟨by simp, by unfold maxLen at hm; omega, fun _ => ⟨b, rfl, fun j p hj => ?_⟩⟩, fun p hp => ?_⟩
    · have hjl : j < len := by
        rcases Nat.lt_or_ge j len with h | h
        · exact h
        · rw [List.getElem?_eq_none (by simpa using h)] at hj; cases hj
      simp only [List.getElem?_map, List.getElem?_range hjl, Option.map_some] at hj
      obtain rfl := Option.some.inj hj
      exact ⟨(V j).2, (hV j hjl).1, (hV j hjl).2.1, (hV j hjl).2.2.2⟩
    · obtain ⟨i, hi, rfl⟩ := List.mem_map.1 hp
      exact (hV i (List.mem_range.1 hi)).2.2.1


instance : Inhabited S23 := ⟨z23⟩
set_option maxRecDepth 100000 in
theorem open_beat {n : Nat} {cs : List Value} {y : DataW H × List MemPlace} (h : DataW.trod enc Try.prog w base spare held n 55 cs = some y) : ∃ p : S23, k23.K w p cs ∧ (-9223372036854775808 ≤ p.f2 ∧ p.f2 ≤ 9223372036854775807) := by
  obtain ⟨xs, m, rfl, _, hlen, hxl, hf⟩ := DataW.trod_struct (Try.underlying55) h
  have hl : cs.length = 3 := hlen
  obtain ⟨c0, c1, c2, rfl⟩ : ∃ c0 c1 c2, cs = [c0, c1, c2] := by
    match cs, hl with
    | [a, b, c], _ => exact ⟨a, b, c, rfl⟩
  have hx : xs.length = 3 := hxl
  have f0 := hf 0 _ rfl
  have f1 := hf 1 _ rfl
  have f2 := hf 2 _ rfl
  rw [List.getElem?_eq_getElem (by omega)] at f0 f1 f2
  obtain ⟨x0, e0, _, _⟩ := DataW.trod_int (k := .i64) (by kernel_rfl) f0
  obtain ⟨x1, e1, _, _⟩ := DataW.trod_int (k := .i64) (by kernel_rfl) f1
  obtain ⟨x2, e2, _, hw⟩ := DataW.trod_int (k := .i64) (by kernel_rfl) f2
  have e0' : [c0] = [Value.int .i64 x0] := e0
  have e1' : [c1] = [Value.int .i64 x1] := e1
  have e2' : [c2] = [Value.int .i64 x2] := e2
  injection e0' with e0' _
  injection e1' with e1' _
  injection e2' with e2' _
  subst e0' e1' e2'
  refine ⟨⟨x0, x1, x2⟩, k23_mk w ⟨x0, x1, x2⟩, ?_⟩
  have hw' : (Lit.int .i64 x2).wf = true := hw
  unfold Lit.wf at hw'
  simp only [Bool.and_eq_true, decide_eq_true_eq] at hw'
  exact hw'
set_option maxRecDepth 100000 in
theorem open_beats {fuel : Nat} {a : Option Addr} {len cap : Nat} {x : DataW H × List MemPlace} (h : DataW.trod enc Try.prog w base spare held fuel 51 [.slice a len cap] = some x) :
    ∃ xs : List S23, xs.length = len ∧ len ≤ cap ∧ cap ≤ maxLen ∧ k23.C w a len xs ∧ ∀ p ∈ xs, -9223372036854775808 ≤ p.f2 ∧ p.f2 ≤ 9223372036854775807 :=
  open_rowR k23 _ (Try.underlying51) rfl (fun _ _ _ _ h => open_beat h) h
end
end
section
open Go.RowKit Go.Proofs.YtgipepjpkmlmaaaW.PrintWords Go.Proofs.YtgipepjpkmlmaaaW.PrintLast Go.Proofs.YtgipepjpkmlmaaaW.PrintMore

open Go.Proofs.YtgipepjpkmlmaaaW.PrintWords.Kd
section
variable {P : Program} {o : Oper} {a : Act} {K : Act → World → Prop} {Q : Exit → Act → World → Prop} {α : Type}
theorem R_append_op (d : Kd α) {Rr : α → List Value → Prop} {w0 W : World} (base : Nat) (s x : Operand) (t e : TypeId) (z : Value) (bytes : Nat)
    (ho : o.op = .call { callee := .builtin .append, args := #[s, x], argTypes := #[t, t] })
    (ht : P.underlying t = some (.slice e)) (hinfo : (P.info? e).map (fun i => (i.zero, i.size, i.bytes)) = some (some z, d.sz, bytes)) (hz : z.cells.size = d.sz) (hs0 : 0 < d.sz) (hb0 : 0 < bytes)
    (v : Value) (xs ys : List α) (A : Option Addr) (m c : Nat) (ok okp : Nat → Prop) (hs : a.eval s = v) (hx : a.eval x = .slice A m c)
    (HO : d.R e W base ok v xs) (HR : ReadsRow Rr d.sz W A m ys) (hKM : ∀ x cs, Rr x cs → d.M W base okp x cs) (hokp : ∀ k, okp k → ok k ∧ some k ≠ v.ownBlock) (hfresh : ∀ k, W.heap.size ≤ k → ok k)
    (HB : Below base w0 W) (hbase : base ≤ W.heap.size) (hl : (xs.length + m) * bytes ≤ 140737488355328)
    (h : ∀ v1 w1, d.R e w1 base ok v1 (xs ++ ys) → Below base w0 w1 → W.grownBy w1 v.ownBlock → (v1.ownBlock = v.ownBlock ∨ ∃ b, v1.ownBlock = some b ∧ W.heap.size ≤ b) → K (a.put o.dst v1) w1) :
    Oper.wp P o a W K Q := by
  obtain ⟨i0, hi, hzz⟩ := Option.map_eq_some_iff.1 hinfo
  simp only [Prod.mk.injEq] at hzz
  obtain ⟨hz0, hz1, hz2⟩ := hzz
  have hm : ys.length = m := HR.1
  have hlen : xs.length + m ≤ 140737488355328 := Nat.le_trans (Nat.le_mul_of_pos_right _ hb0) hl
  obtain ⟨hok, inner, hown, hr⟩ := HO
  have hrun : ∃ v1 w1, (Builtin.append_ #[t, t] o.type #[v, .slice A m c]).run P W = .ok v1 w1 ∧ d.R e w1 base ok v1 (xs ++ ys) ∧ W.grownBy w1 v.ownBlock ∧ (v1.ownBlock = v.ownBlock ∨ ∃ b, v1.ownBlock = some b ∧ W.heap.size ≤ b) := by
    rcases A with _ | ad
    · have h0 : m = 0 := by
        rcases Nat.eq_zero_or_pos m with h0 | h0
        · exact h0
        · obtain ⟨ad, h, _⟩ := HR.2.2 h0
          cases h
      subst h0
      obtain rfl : ys = [] := List.eq_nil_of_length_eq_zero hm
      refine ⟨v, W, ?_, by rw [List.append_nil]; exact ⟨hok, inner, hown, hr⟩, World.grownBy.refl W _, .inl rfl⟩
      rcases hown.2 with ⟨rfl, hn⟩ | ⟨g, cap, cur, rfl, _, _, hnc, _⟩
      · simp [Builtin.append_, run_underlying ht, sizeOf, typeInfo, hi, Builtin.lenOf, Builtin.firstCells]
      · simp [Builtin.append_, run_underlying ht, sizeOf, typeInfo, hi, Builtin.lenOf, Builtin.firstCells, hnc, storeCells]
    · obtain ⟨news, hnr, hnc⟩ := ReadsRow.inner_ HR
      have hnM : Reps (d.M W base okp) d.sz ys news := hnr.imp_ (fun p c hp => hKM p c hp)
      have hone : ∀ u ∈ news, u.oneCell' = true := by
        intro u hu
        obtain ⟨q, hq, rfl⟩ := List.mem_iff_getElem.1 hu
        have hql : q / d.sz < ys.length := by
          rw [Nat.div_lt_iff_lt_mul hs0]
          rw [← hnM.1]
          exact hq
        have hc := hnM.2 (q / d.sz) _ (List.getElem?_eq_getElem hql)
        refine d.K_one (d.K_of_M hc) _ ?_
        rw [List.mem_iff_getElem?]
        refine ⟨q % d.sz, ?_⟩
        rw [List.getElem?_take, if_pos (Nat.mod_lt _ hs0), List.getElem?_drop, Nat.mul_comm, Nat.div_add_mod, List.getElem?_eq_getElem hq]
      obtain ⟨v1, w1, hrun, h2, hg, _, hat⟩ := run_append_own_at (P := P) W base t o.type e i0 z d.sz bytes ht hi hz0 hz1 hz2 hz hs0 v xs.length inner hown ad m c news (by rw [hnM.1, hm]) hnc hone (by simp only [maxLen]; omega) hl hbase
      have hat' : v1.ownBlock = v.ownBlock ∨ ∃ b, v1.ownBlock = some b ∧ W.heap.size ≤ b := by
        rcases hat with hat | hat
        · exact .inl hat
        · exact .inr ⟨_, hat, Nat.le_refl _⟩
      have hne : ∀ k, some k ≠ v.ownBlock → k < W.heap.size → some k ≠ v1.ownBlock := by
        intro k hk hlt
        rcases hat' with hat | ⟨b, hb, hle⟩
        · rw [hat]; exact hk
        · rw [hb]
          intro he
          injection he with he
          omega
      have step : ∀ {q : α} {c : List Value} {o : Nat → Prop}, d.M W base o q c → (∀ k, o k → ok k ∧ some k ≠ v.ownBlock) → d.M w1 base (fun k => ok k ∧ some k ≠ v1.ownBlock) q c := by
        intro q c o hq ho
        have h1 := d.M_move (w1 := w1) (fun k hk => hg.block k hk.2.2.1 (ho k hk.1).2) (d.M_bound hq)
        exact d.M_mono (fun k hk => ⟨(ho k hk.1).1, hne k (ho k hk.1).2 hk.2.2.1⟩) h1
      refine ⟨v1, w1, hrun, ⟨fun k hk => ?_, inner ++ news, by rw [List.length_append, hm]; exact h2, reps_append (hr.imp_ (fun _ _ hq => step hq (fun _ hk => hk))) (hnM.imp_ (fun _ _ hq => step hq hokp))⟩, hg, hat'⟩
      rcases hat' with hat | ⟨b, hb, hle⟩
      · exact hok k (hat ▸ hk)
      · rw [hb] at hk
        injection hk with hk
        exact hfresh k (by omega)
  obtain ⟨v1, w1, hr1, h1, hg, hat⟩ := hrun
  unfold Oper.wp execOp
  simp only [ho, resolve, invoke, builtin, Sem.run_bind, Sem.run_pure, Result.andThen_ok, List.map_toArray, List.map_cons, List.map_nil, hs, hx, hr1]
  exact (h v1 w1 h1 (HB.grown hg hbase (own_base hown)) hg hat)

end
end
end Go.Proofs.Ytgipepjpkmlmaaa.P
