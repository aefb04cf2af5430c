import Derived.Test.YtekbcfgcojecmaaF0
import Derived.Deep.RegionLaw
import Derived.Lib.SliceRun
import Derived.Test.YtekbcfgcojecmaaF11
import Derived.Maps.OwnOps
import Derived.Maps.Views
import Derived.Test.YtekbcfgcojecmaaF16
namespace Go.Proofs.Ytekbcfgcojecmaa.P
set_option linter.unusedVariables false
set_option linter.unusedSimpArgs false
section
open Go.RowKit Go.Proofs.YtekbcfgcojecmaaW.PrintWords Go.Proofs.YtekbcfgcojecmaaW.PrintLast Go.Proofs.YtekbcfgcojecmaaW.PrintMore
theorem eql_nil22 (w : World) (a : Option Addr) (n c : Nat) : (binOp .eql 22 (.slice a n c) (.slice none 0 0)).run Try.prog w = .ok (.bool a.isNone) w := by
  have h := Try.underlying22
  simp [binOp, h]
  cases a <;> rfl
/-- An empty row of one's own. -/
theorem R_empty {B g : Nat} {w : World} {ok : Nat → Prop} (h : w.heap[g]? = some (.cells #[] 54 (0, 0))) (hB : B ≤ g) (ho : ok g) : Kd.R k54 54 w B ok (.slice (some ⟨g, 0, none⟩) 0 0) [] := by
  refine ⟨fun k hk => ?_, [], ⟨rfl, .inr ⟨g, 0, #[], rfl, hB, h, Nat.le_refl _, by unfold maxLen; omega, rfl, rfl⟩⟩, ?_⟩
  · obtain rfl : g = k := by simpa [Value.ownBlock] using hk
    exact ho
  · exact ⟨rfl, fun j p hj => by simp at hj⟩
set_option maxHeartbeats 4000000 in
set_option maxRecDepth 100000 in
theorem clone_calls (A : Option Addr) (c : Nat) (l : List S54) (w : World) (hr : Kd.C k54 w A l.length l) (hc : l.length ≤ c) (hl : l.length ≤ 1000000) (hn : A = none → l = [] ∧ c = 0) :
    Calls Try.prog 34 #[.slice A l.length c] w fun e w' => ∃ v, e = .returned v ∧ Kd.R k54 54 w' w.heap.size (fun _ => True) v l ∧ Below w.heap.size w w' := by
  cases A with
  | none =>
    obtain ⟨rfl, rfl⟩ := hn rfl
    have hq : (binOp .eql 22 (.slice none 0 0) (.slice none 0 0)).run Try.prog w = .ok (.bool true) w := eql_nil22 w none 0 0
    go_enter Try.func34, Try.ntmps34
    go_wp2
    go_ret
    exact ⟨_, rfl, Kd.R_nil _ _ _ _ _, Below.refl _ _⟩
  | some a =>
    have hq : (binOp .eql 22 (.slice (some a) l.length c) (.slice none 0 0)).run Try.prog w = .ok (.bool false) w := eql_nil22 w (some a) l.length c
    have hb1 : Below w.heap.size w (w.alloc (.cells #[] 54)) := (Below.refl _ _).alloc (Nat.le_refl _) _
    have hE : Kd.R k54 54 (w.alloc (.cells #[] 54)) w.heap.size (fun _ => True) (.slice (some ⟨w.heap.size, 0, none⟩) 0 0) [] := R_empty (heap_alloc_new _ _) (Nat.le_refl _) trivial
    have hr1 := Kd.C_below hr hb1
    go_enter Try.func34, Try.ntmps34
    go_wp2_with (first | ((with_reducible refine gate_builtin (b := .append) (xs := #[.tmp 5, .tmp 6]) rfl ?_); at_builtin; refine Kd.R_append_rows k54 (w0 := w) w.heap.size rfl (.tmp 5) (.tmp 6) 22 54 (.agg #[(.int .i64 0), (.int .i64 0)]) 16 rfl Try.underlying22 info54 rfl (by decide) (by omega) (.slice (some ⟨w.heap.size, 0, none⟩) 0 0) [] l _ _ _ (fun _ => True) (fun _ => False) rfl rfl hE hr1 (fun _ _ h => by obtain rfl := k54_open h; exact k54_mkM _ _ _ _) (fun _ h => h.elim) (fun _ _ => trivial) hb1 hb1.size ?aL ?_; (case aL => simp; omega); intro v1 w1 ho hb hg hat; rw [List.nil_append] at ho))
    go_ret
    exact ⟨_, rfl, ho, hb⟩
end
section
open Go.RowKit Go.Proofs.YtekbcfgcojecmaaW.PrintWords Go.Proofs.YtekbcfgcojecmaaW.PrintLast Go.Proofs.YtekbcfgcojecmaaW.PrintMore
theorem zero54 (w : World) : (zeroValue 54).run Try.prog w = .ok (.agg #[(.int .i64 0), (.int .i64 0)]) w := by kernel_rfl
theorem cell_of_row {w : World} {g : Nat} {cur : Array Value} {e : TypeId} (h : w.heap[g]? = some (.cells cur e (0, 0))) (j : Nat) : w.cell? ⟨g, j, none⟩ = cur[j]? := by
  simp [World.cell?, h]
theorem free_of_row {w : World} {g : Nat} {cur : Array Value} {e : TypeId} (h : w.heap[g]? = some (.cells cur e (0, 0))) (j : Nat) : w.frozen? ⟨g, j, none⟩ = false := by
  simp [World.frozen?, h]
/-- 'clear' over instructions: two cells each. -/
theorem clear54 (w : World) (ty : TypeId) (b o n c : Nat) (hn : 0 < n)
    (hc : ∀ j, j < 2 * n → (w.cell? ⟨b, o + j, none⟩).isSome = true) (hf : ∀ j, j < 2 * n → w.frozen? ⟨b, o + j, none⟩ = false) :
    (Builtin.clear_ #[22] ty #[.slice (some ⟨b, o, none⟩) n c]).run Try.prog w = .ok (.tuple #[]) (w.setCells b o (List.replicate (2 * n) (.int .i64 0))) := by
  have hzc : (Builtin.zeroCells (Value.agg #[(.int .i64 0), (.int .i64 0)]).cells n).toList = List.replicate (2 * n) (.int .i64 0) := by
    apply List.ext_getElem
    · simp [Builtin.zeroCells, Value.cells]
      omega
    · intro i h1 h2
      simp [Builtin.zeroCells, Value.cells]
      rcases Nat.mod_two_eq_zero_or_one i with h | h <;> simp [h]
  have hst := run_storeCells_cells (P := Try.prog) b o (List.replicate (2 * n) (.int .i64 0)) 0 w (by simpa using hc) (by simpa using hf) (by intro v hv'; rw [List.eq_of_mem_replicate hv']; rfl)
  simp only [Nat.add_zero] at hst
  obtain ⟨m, rfl⟩ : ∃ m, n = m + 1 := ⟨n - 1, by omega⟩
  simp [Builtin.clear_, run_underlying Try.underlying22, zero54, hzc, hst]
theorem below_sets {B g : Nat} (hg : B ≤ g) : ∀ (vs : List Value) (o : Nat) {w w1 : World}, Below B w w1 → Below B w (w1.setCells g o vs)
  | [], _, _, _, h => h
  | v :: r, o, w, w1, h => below_sets hg r (o + 1) (h.setCell (p := ⟨g, o, none⟩) hg v)
theorem M54_any {w w1 : World} {b b1 : Nat} {ok ok1 : Nat → Prop} {x : S54} {cs : List Value} (h : k54.M w b ok x cs) : k54.M w1 b1 ok1 x cs := by
  obtain rfl := k54_openM h
  exact k54_mkM _ _ _ _
theorem M54_one {w : World} {b : Nat} {ok : Nat → Prop} {l : List S54} {cs : List Value} (h : Reps (k54.M w b ok) 2 l cs) : ∀ u ∈ cs, u.oneCell' = true := by
  intro u hu
  obtain ⟨j, hj, rfl⟩ := List.getElem_of_mem hu
  have hl := h.1
  have hr := k54_openM (h.2 (j / 2) _ (List.getElem?_eq_getElem (show j / 2 < l.length by omega)))
  have h2 : (List.take 2 (List.drop (j / 2 * 2) cs))[j % 2]? = some cs[j] := by
    rw [List.getElem?_take_of_lt (by omega), List.getElem?_drop, show j / 2 * 2 + j % 2 = j by omega, List.getElem?_eq_getElem hj]
  rw [hr] at h2
  rcases Nat.mod_two_eq_zero_or_one j with hm | hm <;> rw [hm] at h2 <;> (simp at h2; rw [← h2]; rfl)
set_option maxHeartbeats 4000000 in
set_option maxRecDepth 100000 in
theorem delete_calls (B : Nat) (A : Option Addr) (c : Nat) (l : List S54) (i j : Nat) (w : World) (ok : Nat → Prop) (hR : Kd.R k54 54 w B ok (.slice A l.length c) l) (hij : i < j) (hj : j ≤ l.length) :
    Calls Try.prog 54 #[.slice A l.length c, .int .i64 (i : Int), .int .i64 (j : Int)] w fun e w' => ∃ v, e = .returned v ∧ Kd.R k54 54 w' B ok v (l.take i ++ l.drop j) ∧ Below B w w' := by
  obtain ⟨i0, hi0, hz1⟩ : ∃ i0, Try.prog.info? 54 = some i0 ∧ i0.size = 2 := by
    have := info54
    cases h : Try.prog.info? 54 with
    | none => rw [h] at this; cases this
    | some i0 => rw [h] at this; simp at this; exact ⟨i0, rfl, this.2.1⟩
  obtain ⟨h0, inner, ⟨hil, ho⟩, hreps⟩ := hR
  rcases ho with ⟨hv, hz⟩ | ⟨g, cap, cur, hv, hB, hblk, hlc, hmx, hsz, htk⟩
  · omega
  injection hv with e1 _ e2
  subst e1 e2
  have e0 : k54.sz = 2 := rfl
  rw [e0] at hil hsz htk hreps
  have hm : maxLen = 9223372036854775807 := rfl
  have hlt := lt_of_block hblk
  have hcell := cell_of_row hblk
  have hfree := free_of_row hblk
  obtain ⟨news, hnews⟩ : ∃ news, news = inner.drop (j * 2) := ⟨_, rfl⟩
  have hlen : news.length = (l.length - j) * 2 := by rw [hnews, List.length_drop, hil]; omega
  have hget : ∀ t u, news[t]? = some u → cur[j * 2 + t]? = some u := by
    intro t u hu
    have ht : t < news.length := (List.getElem?_eq_some_iff.1 hu).1
    rw [hnews, List.getElem?_drop, ← htk, List.getElem?_take_of_lt (by omega), Array.getElem?_toList] at hu
    exact hu
  obtain ⟨A, hA, hsrc⟩ : ∃ A : Addr, (if c = j then some (⟨g, 0, none⟩ : Addr) else some ⟨g, j * 2, none⟩) = some A ∧ Hid (∀ t u, news[t]? = some u → w.drew.cell? (A.add t) = some u) := by
    by_cases h : c = j
    · refine ⟨⟨g, 0, none⟩, by simp [h], fun t u hu => ?_⟩
      have h0 : news.length = 0 := by rw [hlen]; omega
      rw [List.length_eq_zero_iff.1 h0] at hu
      simp at hu
    · refine ⟨⟨g, j * 2, none⟩, by simp [h], fun t u hu => ?_⟩
      rw [add_at]
      exact (hcell _).trans (hget t u hu)
  have s1 : Hid (news.length = (l.length - j) * 2) := hlen
  have s2 : Hid (∀ u ∈ news, u.oneCell' = true) := fun u hu => M54_one hreps u (List.mem_of_mem_drop (hnews ▸ hu))
  have s3 : Hid (∀ t, t < news.length → (w.drew.cell? ⟨g, 0 + i * 2 + t, none⟩).isSome = true ∧ w.drew.frozen? ⟨g, 0 + i * 2 + t, none⟩ = false) := by
    intro t ht
    rw [hlen] at ht
    refine ⟨?_, hfree _⟩
    show (w.cell? _).isSome = true
    rw [hcell, Array.getElem?_eq_getElem (by omega)]
    rfl
  obtain ⟨W1, hW1⟩ : ∃ W1, W1 = w.drew.setCells g (0 + i * 2) news := ⟨_, rfl⟩
  obtain ⟨cur1, hb1, hsz1, hcur1⟩ := setCells_row news (0 + i * 2) w.drew cur hblk (by omega)
  rw [← hW1] at hb1
  have hcl : ∀ ty, (Builtin.clear_ #[22] ty #[.slice (some ⟨g, (i + (l.length - j)) * 2, none⟩) (l.length - (i + (l.length - j))) (c - (i + (l.length - j)))]).run Try.prog W1 = .ok (.tuple #[]) (W1.setCells g ((i + (l.length - j)) * 2) (List.replicate (2 * (l.length - (i + (l.length - j)))) (.int .i64 0))) :=
    fun ty => clear54 W1 ty g _ _ _ (by omega) (fun t ht => by rw [cell_of_row hb1, Array.getElem?_eq_getElem (by omega)]; rfl) (fun t ht => free_of_row hb1 _)
  obtain ⟨cur2, hb2, hsz2, hcur2⟩ := setCells_row (List.replicate (2 * (l.length - (i + (l.length - j)))) (.int .i64 0)) ((i + (l.length - j)) * 2) W1 cur1 hb1 (by simp; omega)
  have hfin : cur2.toList.take ((i + (l.length - j)) * 2) = inner.take (i * 2) ++ inner.drop (j * 2) := by
    rw [hcur2, List.append_assoc, List.take_append_of_le_length (by simp; omega), List.take_take, Nat.min_self, hcur1, List.append_assoc, ← List.append_assoc, List.take_append_of_le_length (by simp; omega), List.take_of_length_le (by simp; omega), hnews, ← htk, Nat.zero_add, List.take_take, Nat.min_eq_left (by omega)]
  have hbel : Below B w (W1.setCells g ((i + (l.length - j)) * 2) (List.replicate (2 * (l.length - (i + (l.length - j)))) (.int .i64 0))) := by
    refine below_sets hB _ _ ?_
    rw [hW1]
    exact below_sets hB _ _ ((Below.refl _ _).drew)
  have hW : Hid (W1 = w.drew.setCells g (0 + i * 2) news) := hW1
  have X1 : Hid (Reps (k54.M w B fun k => ok k ∧ some k ≠ (Value.slice (some { block := g, off := 0 }) l.length c).ownBlock) 2 l inner) := hreps
  have X2 : Hid (List.take ((i + (l.length - j)) * 2) cur2.toList = List.take (i * 2) inner ++ List.drop (j * 2) inner) := hfin
  have X3 : Hid ((W1.setCells g ((i + (l.length - j)) * 2) (List.replicate (2 * (l.length - (i + (l.length - j)))) (Value.int IntKind.i64 0))).heap[g]? = some (Obj.cells cur2 54 (0, 0))) := hb2
  have X4 : Hid (cur2.size = c * 2) := by show cur2.size = c * 2; omega
  have hic : i ≤ c := by omega
  have hjc : j ≤ c := by omega
  clear hget hcell hfree hnews hlen hW1 hb1 hcur1 hsz1 hreps htk hblk hfin hb2 hcur2 hil
  go_enter Try.func54, Try.ntmps54
  go_wp2_with fail
  go_region_law (refine step_append_room rfl (.tmp 22) (.tmp 25) 22 rfl 54 i0 2 Try.underlying22 hi0 hz1 g 0 i c (by simp [Act.eval, Act.put]) A (l.length - j) (c - j) news (by simp [Act.eval, Act.put]) s1.out hsrc.out s2.out (by omega) s3.out ?_; rw [← hW.out])
  go_wp2
  all_goals (
    go_ret
    refine ⟨.slice (some ⟨g, 0, none⟩) (i + (l.length - j)) c, rfl, ?_, hbel⟩
    have hll : (l.take i ++ l.drop j).length = i + (l.length - j) := by simp; omega
    refine ⟨h0, inner.take (i * 2) ++ inner.drop (j * 2), ⟨?_, .inr ⟨g, c, cur2, by rw [hll], hB, X3.out, by omega, hmx, X4.out, ?_⟩⟩, ?_⟩
    · have := X1.out.1
      rw [hll, e0]
      simp
      omega
    · rw [hll, e0]
      exact X2.out
    · exact Kd.reps_append ((Kd.reps_take X1.out (by omega)).imp_ (fun _ _ h => M54_any h)) ((Kd.reps_drop X1.out).imp_ (fun _ _ h => M54_any h)))
end
section
open Go.RowKit Go.Maps Go.Proofs.YtekbcfgcojecmaaW.PrintWords Go.Proofs.YtekbcfgcojecmaaW.PrintLast Go.Proofs.YtekbcfgcojecmaaW.PrintMore
/-- How many jumps land at a place. -/
def cnt (l : List S54) (i : Int) : Nat := (l.filter (fun x => jmp x && x.f1 == i)).length
theorem cnt_le (l : List S54) (i : Int) : cnt l i ≤ l.length := List.length_filter_le _ _
theorem law3m : Keyed Try.prog 3 := int_keyed Try.underlying3
theorem zero3m (w : World) : (zeroValue 3).run Try.prog w = .ok (.int .i64 0) w := by kernel_rfl
/-- The map of the places at which jumps land. -/
def LandsAt (w : World) (b : Nat) (l : List S54) : Prop := ∃ (n : Nat) (D : DataW Nat), n ≤ l.length ∧ w.ownsMap Try.prog 3 (plainElem (H := Nat) Try.prog 3) b n D ∧ ∀ i : Int, D.atKey (.int .i64 i) (.lit (.int .i64 0)) = .lit (.int .i64 (cnt l i))
theorem LandsAt.move {w w1 : World} {b : Nat} {l : List S54} (h : LandsAt w b l) (hb : w1.heap[b]? = w.heap[b]?) : LandsAt w1 b l := by
  obtain ⟨n, D, h1, ⟨es, clock, h2, h3⟩, h4⟩ := h
  exact ⟨n, D, h1, ⟨es, clock, hb.trans h2, h3⟩, h4⟩
theorem cnt_snoc (l : List S54) (k : Nat) (hk : k < l.length) (i : Int) : cnt (l.take (k + 1)) i = cnt (l.take k) i + (if (jmp (rd_T54 l (k : Int)) && (rd_T54 l (k : Int)).f1 == i) = true then 1 else 0) := by
  unfold cnt
  rw [List.take_add_one, List.getElem?_eq_getElem hk, List.filter_append, List.length_append]
  have e : rd_T54 l (k : Int) = l[k] := by simp [rd_T54, List.getD, List.getElem?_eq_getElem hk]
  rw [e]
  simp only [Option.toList, List.filter_cons, List.filter_nil]
  split <;> simp
set_option maxHeartbeats 4000000 in
set_option maxRecDepth 100000 in
theorem targets_calls (A : Option Addr) (c : Nat) (l : List S54) (w : World) (hr : Kd.C k54 w A l.length l) (hc : l.length ≤ c) (hl : l.length ≤ 1000000) (hj : ∀ x ∈ l, jmp x = true → 0 ≤ x.f1 ∧ x.f1 ≤ 1000000) :
    Calls Try.prog 46 #[.slice A l.length c] w fun e w' => ∃ b, e = .returned (.map (some b)) ∧ w.heap.size ≤ b ∧ LandsAt w' b l ∧ Below w.heap.size w w' := by
  have hmm := @run_makeMap Try.prog
  go_enter Try.func46, Try.ntmps46
  go_wp2
  go_loopg [9] l.length (fun kq v9 wr => ∃ (i : Nat), v9 = .int .i64 (i : Int) ∧ i ≤ l.length ∧ l.length - i ≤ kq ∧ LandsAt wr w.heap.size (l.take i) ∧ Below w.heap.size w wr)
  case atStart =>
    refine ⟨0, rfl, Nat.zero_le _, by omega, ⟨0, .map [], Nat.zero_le _, World.ownsMap_made _ _ _ _, fun i => rfl⟩, (Below.refl _ _).alloc (Nat.le_refl _) _⟩
  case round =>
    obtain ⟨i, rfl, hil, hik, hM, hb⟩ := hrel
    by_cases hlt : i < l.length
    rotate_left
    · have d1 : decide ((i : Int) < (l.length : Int)) = false := decide_eq_false (by omega)
      rw [List.take_of_length_le (by omega)] at hM
      go_wp2
      go_ret
      exact ⟨_, rfl, Nat.le_refl _, hM, hb⟩
    have d1 : decide ((i : Int) < (l.length : Int)) = true := decide_eq_true (by omega)
    have hrr := Kd.C_below hr hb
    obtain ⟨ad, rfl, hx0, hx1⟩ := at_T54 hrr (i : Int) (by omega) (by omega)
    rw [Int.toNat_natCast] at hx0 hx1
    have hcs := cnt_snoc l i hlt
    have hjx : jmp (rd_T54 l (i : Int)) = true → 0 ≤ (rd_T54 l (i : Int)).f1 ∧ (rd_T54 l (i : Int)).f1 ≤ 1000000 := by
      have e : rd_T54 l (i : Int) = l[i] := by simp [rd_T54, List.getD, List.getElem?_eq_getElem hlt]
      rw [e]
      exact hj _ (List.getElem_mem _)
    revert hx0 hx1 hcs hjx
    generalize rd_T54 l (i : Int) = x
    obtain ⟨op, na⟩ := x
    intro hx0 hx1 hcs hjx
    simp only at hx0 hx1 hcs
    have hsz2 := World.size_alloc wr (.cells #[.int .i64 op, .int .i64 na] 54)
    have hM1 : LandsAt (wr.alloc (.cells #[.int .i64 op, .int .i64 na] 54)) w.heap.size (l.take i) := hM.move (Below.heap_alloc _ _ _ (by have := hb.size; obtain ⟨_, _, _, ⟨_, _, h, _⟩, _⟩ := hM; exact lt_of_block h))
    have hb1 : Below w.heap.size w (wr.alloc (.cells #[.int .i64 op, .int .i64 na] 54)) := hb.alloc (by have := hb.size; omega) _
    have hti : (l.take i).length = i := by simp; omega
    cases gk with
    | zero => omega
    | succ gk =>
    have key : jmp ⟨op, na⟩ = true → 0 = 0 := fun _ => rfl
    by_cases c30 : jmp ⟨op, na⟩ = true
    · obtain ⟨n, D, hn, hown, hD⟩ := hM1
      obtain ⟨n0, n1⟩ := hjx c30
      have hwf : (Lit.int .i64 na).wf = true := by
        have e : na = wrap64 na := by simp only at n0 n1; unfold wrap64; omega
        rw [e]
        exact wrap64_wf _
      have hkey : keyOf Try.prog 3 (.int .i64 na) = some (.int .i64 na) := keyOf_int_mk Try.underlying3 hwf
      have fin : ∀ (cc : Int) (w1 : World), D.atKey (.int .i64 na) (.lit (.int .i64 0)) = .lit (.int .i64 cc) → w1.ownsMap Try.prog 3 (plainElem (H := Nat) Try.prog 3) w.heap.size (n + 1) (D.put (.int .i64 na) (.lit (.int .i64 (wrap64 (cc + 1))))) → LandsAt w1 w.heap.size (l.take (i + 1)) := by
        intro cc w1 hat hown1
        rw [hD na] at hat
        injection hat with hat
        injection hat with _ hat
        refine ⟨n + 1, _, by rw [hti] at hn; simp; omega, hown1, fun j => ?_⟩
        have hcl := cnt_le (l.take i) na
        by_cases hne : j = na
        · subst hne
          obtain ⟨es, clock, -, -, -, hDD⟩ := hown
          rw [atKey_put_same (k := .int .i64 j) ⟨_, hDD⟩ (show WideAt.IsKeyLit (.int .i64 j) from trivial), hcs j, c30, ← hat]
          congr 2
          simp
          unfold wrap64
          omega
        · rw [atKey_put_other (fun e => hne (by injection e)), hD j, hcs j, if_neg (by simp; exact fun _ e => hne e.symm), Nat.add_zero]
      have hne : na ≠ na + 1 := by omega
      have ew : wrap64 ((i : Int) + 1) = ((i + 1 : Nat) : Int) := by unfold wrap64; omega
      have hop : op = 30 ∨ op = 31 := by simpa [jmp] using c30
      rcases hop with rfl | rfl
      all_goals (
        go_wp2_with (first
          | (at_lookup; refine wpList_lookup_own_int _ rfl _ _ 77 rfl 3 3 .i64 law3m Try.underlying77 Try.underlying3 (zero3m _) w.heap.size n _ rfl hown _ _ rfl hkey ?_; intro cc hat hwc)
          | (at_mapUpdate; refine wpList_mapUpdate_own _ rfl _ _ _ 77 rfl 3 3 law3m Try.underlying77 _ w.heap.size n _ rfl hown (by unfold maxLen; omega) _ _ _ rfl rfl hkey _ [] (plainElem_int Try.underlying3 (wrap64_wf _)) ?_; intro w1 hown1 hgrow1))
        go_roundg gk
        case measure => omega
        case rel => exact ⟨i + 1, by congr 1, by omega, by omega, fin _ _ hat hown1, hb1.grown hgrow1 hb1.size (fun j hj => by cases hj; exact Nat.le_refl _)⟩)
    · have h30 : (op == 30) = false := by cases h : (op == 30) <;> simp [jmp, h] at c30 ⊢
      have h31 : (op == 31) = false := by cases h : (op == 31) <;> simp [jmp, h] at c30 ⊢
      go_wp2
      go_roundg gk
      case measure => omega
      case rel =>
        obtain ⟨n, D, hn, hown, hD⟩ := hM1
        refine ⟨i + 1, by congr 1, by omega, by omega, ⟨n, D, by rw [hti] at hn; simp; omega, hown, fun j => ?_⟩, hb1⟩
        rw [hD j, hcs j, if_neg (by simp [c30]), Nat.add_zero]
end
section
open Go.RowKit Go.Proofs.YtekbcfgcojecmaaW.PrintWords Go.Proofs.YtekbcfgcojecmaaW.PrintLast Go.Proofs.YtekbcfgcojecmaaW.PrintMore
attribute [local go_sem] max2_int min2_int max_two min_two
/-- What becomes of an instruction that stays, when n of them go at a place. -/
def shiftC (at_ n : Int) (x : S54) : S54 := if (jmp x && decide (at_ < x.f1)) = true then ⟨x.f0, max at_ (wrap64 (x.f1 - n))⟩ else x
def dropC (l : List S54) (at_ n : Nat) : List S54 := (l.take at_ ++ l.drop (at_ + n)).map (shiftC (at_ : Int) (n : Int))
set_option maxHeartbeats 4000000 in
set_option maxRecDepth 100000 in
theorem drop_calls (A : Option Addr) (c : Nat) (l : List S54) (at_ n : Nat) (w : World) (hr : Kd.C k54 w A l.length l) (hc : l.length ≤ c) (hl : l.length ≤ 1000000) (hn : 0 < n) (hat : at_ + n ≤ l.length) :
    Calls Try.prog 47 #[.slice A l.length c, .int .i64 (at_ : Int), .int .i64 (n : Int)] w fun e w' => ∃ v, e = .returned v ∧ Kd.R k54 54 w' w.heap.size (fun _ => True) v (dropC l at_ n) ∧ Below w.heap.size w w' := by
  have hA : A = none → l = [] ∧ c = 0 := by
    obtain ⟨ad, e, _⟩ := at_T54 hr 0 (by omega) (by omega)
    intro h
    rw [h] at e
    cases e
  have ew : wrap64 ((at_ : Int) + (n : Int)) = (at_ : Int) + (n : Int) := by unfold wrap64; omega
  go_enter Try.func47, Try.ntmps47
  go_wp2_with (first
    | (go_at_call 34; go_loud ((with_reducible refine (clone_calls A c l w hr hc hl hA).mono ?_); rintro e w1 ⟨v1, rfl, hR1, hb1⟩; obtain ⟨A1, c1, rfl⟩ := Kd.R_slice hR1))
    | (go_at_call 54; go_loud (rw [show (at_ : Int) + (n : Int) = ((at_ + n : Nat) : Int) by omega]; refine (delete_calls w.heap.size A1 c1 l at_ (at_ + n) w1 _ hR1 (by omega) hat).mono ?_; rintro e w2 ⟨v2, rfl, hR2, hb2⟩; have hdl : (l.take at_ ++ l.drop (at_ + n)).length = l.length - n := (by simp; omega); have hdd : dropC l at_ n = (l.take at_ ++ l.drop (at_ + n)).map (shiftC (at_ : Int) (n : Int)) := rfl; revert hR2 hdl hdd; generalize l.take at_ ++ l.drop (at_ + n) = M; intro hR2 hdl hdd; have hML : M.length ≤ 1000000 := (by omega); clear hdl; obtain ⟨A2, c2, rfl⟩ := Kd.R_slice hR2)))
  have hb3 : Below w.heap.size w w2 := hb1.trans hb2
  go_loopg [18] M.length (fun kq v18 wr => ∃ (i : Nat), v18 = .int .i64 (i : Int) ∧ i ≤ M.length ∧ M.length - i ≤ kq ∧ Kd.R k54 54 wr w.heap.size (fun _ => True) (.slice A2 M.length c2) ((M.take i).map (shiftC (at_ : Int) (n : Int)) ++ M.drop i) ∧ Below w.heap.size w wr)
  case atStart => exact ⟨0, rfl, Nat.zero_le _, by omega, by simpa using hR2, hb3⟩
  case round =>
    obtain ⟨i, rfl, hil, hik, hR, hb⟩ := hrel
    by_cases hlt : i < M.length
    rotate_left
    · have d1 : decide ((i : Int) < (M.length : Int)) = false := decide_eq_false (by omega)
      rw [List.take_of_length_le (by omega), List.drop_of_length_le (by omega), List.append_nil] at hR
      go_wp2
      go_ret
      exact ⟨_, rfl, by rw [hdd]; exact hR, hb⟩
    have d1 : decide ((i : Int) < (M.length : Int)) = true := decide_eq_true (by omega)
    have hcl : ((M.take i).map (shiftC (at_ : Int) (n : Int)) ++ M.drop i).length = M.length := by simp; omega
    have hnext : ∀ x, x = shiftC (at_ : Int) (n : Int) (rd_T54 ((M.take i).map (shiftC (at_ : Int) (n : Int)) ++ M.drop i) (i : Int)) → ((M.take i).map (shiftC (at_ : Int) (n : Int)) ++ M.drop i).set i x = (M.take (i + 1)).map (shiftC (at_ : Int) (n : Int)) ++ M.drop (i + 1) := by
      intro x hx
      have hrd : rd_T54 ((M.take i).map (shiftC (at_ : Int) (n : Int)) ++ M.drop i) (i : Int) = M[i] := by
        simp [rd_T54, List.getD, List.getElem?_append_right, Nat.min_eq_left hil, List.getElem?_drop, List.getElem?_eq_getElem hlt]
      rw [hrd] at hx
      subst hx
      rw [List.set_append_right _ _ (by simp; omega), List.take_add_one, List.getElem?_eq_getElem hlt, List.map_append, List.append_assoc]
      congr 1
      simp [Nat.min_eq_left hil]
      rw [List.drop_eq_getElem_cons hlt]
      rfl
    obtain ⟨g, rfl, hg, hgc⟩ := R_at (A := A2) hR (by omega)
    revert hR hcl hnext
    generalize (M.take i).map (shiftC (at_ : Int) (n : Int)) ++ M.drop i = cur
    intro hcl hnext hR
    obtain ⟨cs, hcs0, hM, hcc, hfz⟩ := Kd.R_elem hR z54 (i : Int) (by omega) (by omega)
    have hcs := k54_openM hM
    have hseg := fun (v : Int) => Kd.R_seg hR (i : Int) (by omega) (by omega) hcs0 hcc (seg := [.int .i64 v]) (j := 1) (Nat.le_refl 2) (x' := ⟨(rd_T54 cur (i : Int)).f0, v⟩) (okp := fun k => True ∧ k ≠ g) (by rw [hcs]; exact k54_mkM _ _ _ ⟨_, _⟩) (fun _ hk => hk)
    have hc0 := hcc 0 _ (by rw [hcs]; rfl)
    have hc1 := hcc 1 _ (by rw [hcs]; rfl)
    have hf1 := hfz 1
    have e0 : k54.sz = 2 := rfl
    have e9 : (cur.getD i z54) = rd_T54 cur (i : Int) := rfl
    simp only [Int.toNat_natCast, e0, e9, Nat.add_zero] at hc0 hc1 hf1 hseg
    clear hM hcc hfz hcs e0 e9
    have hsm : ∀ x, x = shiftC (at_ : Int) (n : Int) (rd_T54 cur (i : Int)) → Hid (cur.set i x = (M.take (i + 1)).map (shiftC (at_ : Int) (n : Int)) ++ M.drop (i + 1)) := hnext
    have hsame : rd_T54 cur (i : Int) = shiftC (at_ : Int) (n : Int) (rd_T54 cur (i : Int)) → Hid (cur = (M.take (i + 1)).map (shiftC (at_ : Int) (n : Int)) ++ M.drop (i + 1)) := fun h => by
      have h2 := hnext _ h
      have h3 : cur.set i (rd_T54 cur (i : Int)) = cur := by
        simp [rd_T54, List.getD, List.getElem?_eq_getElem (show i < cur.length by omega)]
      rw [h3] at h2
      exact h2
    clear hnext
    revert hc0 hc1 hseg hsm hsame
    generalize rd_T54 cur (i : Int) = x
    obtain ⟨op, na⟩ := x
    intro hc0 hc1 hseg hsm hsame
    simp only at hc0 hc1 hseg
    have hR1' := hR
    cases gk with
    | zero => omega
    | succ gk =>
    have q1 : i + 1 ≤ M.length := hlt
    have q2 : M.length - (i + 1) ≤ gk := by omega
    by_cases c30 : jmp ⟨op, na⟩ = true
    · have hop : op = 30 ∨ op = 31 := by simpa [jmp] using c30
      by_cases c5 : (at_ : Int) < na
      · have d5 : decide ((at_ : Int) < na) = true := decide_eq_true c5
        have hx : (⟨op, max (at_ : Int) (wrap64 (na - n))⟩ : S54) = shiftC (at_ : Int) (n : Int) ⟨op, na⟩ := by
          unfold shiftC
          rw [c30, Bool.true_and, if_pos d5]
        have hfin := hsm _ hx
        have hsg := (hseg (max (at_ : Int) (wrap64 (na - n)))).1
        clear hsm hsame hseg
        have hsW : ∀ v, (wr.setCell ⟨g, i * 2 + 1, none⟩ v).heap = (wr.setCells g (i * 2 + 1) [v]).heap := fun v => rfl
        have hbW : ∀ v, Below w.heap.size w (wr.setCell ⟨g, i * 2 + 1, none⟩ v) := fun v => hb.setCell (p := ⟨g, i * 2 + 1, none⟩) hg v
        rcases hop with rfl | rfl
        all_goals (
          go_wp2
          all_goals (
            go_roundg gk
            case measure => omega
            case rel =>
              rename_i h
              first | rw [Int.max_eq_left h] at hfin hsg | rw [Int.max_eq_right (Int.le_of_lt h)] at hfin hsg
              exact ⟨i + 1, by congr 1, q1, q2, by rw [← hfin.out]; exact Kd.R_move hsg (fun k _ => rfl), hbW _⟩))
      · have d5 : decide ((at_ : Int) < na) = false := decide_eq_false c5
        have hfin := hsame (by unfold shiftC; rw [if_neg (by rw [d5, Bool.and_false]; decide)])
        clear hsm hsame hseg
        rcases hop with rfl | rfl
        all_goals (
          go_wp2
          go_roundg gk
          case measure => omega
          case rel => exact ⟨i + 1, by congr 1, q1, q2, by rw [← hfin.out]; exact hR, hb⟩)
    · have h30 : (op == 30) = false := by cases h : (op == 30) <;> simp [jmp, h] at c30 ⊢
      have h31 : (op == 31) = false := by cases h : (op == 31) <;> simp [jmp, h] at c30 ⊢
      have hfin := hsame (by unfold shiftC; rw [if_neg (by simp [c30])])
      clear hsm hsame hseg
      go_wp2
      go_roundg gk
      case measure => omega
      case rel => exact ⟨i + 1, by congr 1, q1, q2, by rw [← hfin.out]; exact hR, hb⟩
end
end Go.Proofs.Ytekbcfgcojecmaa.P
