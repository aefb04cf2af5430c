import Derived.Test.YtgipepjpkmlmaaaQO1
import Derived.Test.YtgipepjpkmlmaaaQO2
import Derived.Test.YtgipepjpkmlmaaaQO3
import Derived.Test.YtgipepjpkmlmaaaQO4
import Derived.Test.YtgipepjpkmlmaaaQO5
import Derived.Test.YtgipepjpkmlmaaaQO6
import Derived.Test.YtgipepjpkmlmaaaQO7
namespace Go.Proofs.Ytgipepjpkmlmaaa.P
open Go.RowKit Go.Proofs.YtgipepjpkmlmaaaW.PrintWords Go.Proofs.YtgipepjpkmlmaaaW.PrintLast Go.Proofs.YtgipepjpkmlmaaaW.PrintMore
set_option linter.unusedVariables false
set_option linter.unusedSimpArgs false
theorem builderX : Builder.Extra Try.prog Try.lays169_ren := Try.Builder_Extra_169
set_option maxHeartbeats 1000000 in
set_option maxRecDepth 100000 in
/-- A builder that has been used. -/
theorem copyCheck_used (b : Nat) (w : World) (h0 : w.cell? ⟨b, 0, none⟩ = some (.pointer (some ⟨b, 0, none⟩))) :
    Calls Try.prog 100 #[.pointer (some ⟨b, 0, none⟩)] w fun e w' => e = .returned (.tuple #[]) ∧ w' = w := by
  obtain ⟨j, hj, _⟩ := Option.map_eq_some_iff.1 builderX.sizeBuilder
  go_enter Try.func100, Try.ntmps100
  go_wp2
  rw [Lib.run_neq_ptr_same w _ Try.underlying138 hj]
  go_wp2
  go_end0
  exact ⟨rfl, rfl⟩
set_option maxHeartbeats 1000000 in
set_option maxRecDepth 100000 in
/-- A fresh one: it keeps its own address. -/
theorem copyCheck_fresh (b : Nat) (w : World) (h0 : w.cell? ⟨b, 0, none⟩ = some (.pointer none)) (hsh : w.shape? b = some (140, 2)) (hfz : w.frozen? ⟨b, 0, none⟩ = false) :
    Calls Try.prog 100 #[.pointer (some ⟨b, 0, none⟩)] w fun e w' => e = .returned (.tuple #[]) ∧ w' = w.setCell ⟨b, 0, none⟩ (.pointer (some ⟨b, 0, none⟩)) := by
  obtain ⟨j, hj, hjs⟩ := Option.map_eq_some_iff.1 builderX.sizeBuilder
  go_enter Try.func100, Try.ntmps100
  go_wp2
  rw [Lib.run_to_unsafe w ⟨b, 0, none⟩ Try.underlying138 Try.underlying149 hj (by rw [hjs]; decide) hsh (Nat.zero_lt_succ 1)]
  simp only [Result.andThen]
  rw [Oper.upon_value]
  go_wp2
  rw [run_callFunc_extern Try.func102 (by kernel_rfl) (by kernel_rfl) (by kernel_rfl) (e := Extern.AbiNoEscape.same) (by kernel_rfl)]
  rw [Lib.run_noEscape]
  simp only [Result.andThen]
  rw [Oper.upon_value]
  go_wp2
  rw [Lib.run_from_unsafe w ⟨b, 0, none⟩ Try.underlying149 Try.underlying138 hj hsh builderX.liesBuilder]
  simp only [Result.andThen]
  rw [Oper.upon_value]
  go_wp2
  go_end0
  exact ⟨rfl, rfl⟩
theorem copyCheck_calls (B b : Nat) (bs : List Value) (w : World) (h : Lib.IsBuilder 140 5 B b bs w) :
    Calls Try.prog 100 #[.pointer (some ⟨b, 0, none⟩)] w fun e w' => e = .returned (.tuple #[]) ∧ Lib.BuilderAt 140 5 B b (.pointer (some ⟨b, 0, none⟩)) bs w' ∧ Below B w w' := by
  rcases h with h | h
  · refine (copyCheck_fresh b w h.cell0 h.shape h.frozen0).mono ?_
    rintro e w' ⟨rfl, rfl⟩
    exact ⟨rfl, h.used _, (Below.refl B w).setCell (p := ⟨b, 0, none⟩) h.1 _⟩
  · refine (copyCheck_used b w h.cell0).mono ?_
    rintro e w' ⟨rfl, rfl⟩
    exact ⟨rfl, h, Below.refl B _⟩
set_option maxHeartbeats 2000000 in
set_option maxRecDepth 100000 in
/-- What is written stands behind what stood there. -/
theorem writeString_calls (B b : Nat) (bs : List Value) (s : ByteArray) (w : World) (h : Lib.IsBuilder 140 5 B b bs w) (hlen : bs.length + s.size ≤ 140737488355328) (hBw : B ≤ w.heap.size) :
    Calls Try.prog 97 #[.pointer (some ⟨b, 0, none⟩), .string s] w fun e w' => e = .returned (.tuple #[.int .i64 s.size, .nilIface]) ∧ Lib.BuilderAt 140 5 B b (.pointer (some ⟨b, 0, none⟩)) (bs ++ Lib.strCells s) w' ∧ Below B w w' := by
  obtain ⟨i0, hi, hz0, hz1, hz2⟩ := info_parts builderX.infoByte
  go_enter Try.func97, Try.ntmps97
  go_wp2_with (first | (go_at_call 100; refine (copyCheck_calls B b bs _ h).mono ?_))
  rintro e w1 ⟨rfl, h1, hb1⟩
  obtain ⟨hB, v, hbk, hown, hne⟩ := h1
  have c0 : w1.cell? ⟨b, 0, none⟩ = some (.pointer (some ⟨b, 0, none⟩)) := by rw [Lib.cell_of_heap hbk]; rfl
  have c1 : w1.cell? ⟨b, 1, none⟩ = some v := by rw [Lib.cell_of_heap hbk]; rfl
  go_wp2_with (at_builtin; refine Lib.wpList_append_own_string _ rfl _ _ 125 9 rfl B 5 i0 Try.underlying125 Try.underlying9 hi hz0 hz1 hz2 _ _ _ rfl hown s rfl ?c3 ?c4 ?c5 ?_)
  case c3 => unfold maxLen; omega
  case c4 => omega
  case c5 => have := hb1.size; omega
  intro v' w2 hown' hgrow _
  have hlt : b < w1.heap.size := by
    rcases Nat.lt_or_ge b w1.heap.size with h' | h'
    · exact h'
    · simp [Array.getElem?_eq_none h'] at hbk
  have hb2 : w2.heap[b]? = some (.cells #[.pointer (some ⟨b, 0, none⟩), v] 140 (0, 0)) := by
    rw [hgrow.block b hlt (fun e => hne e.symm)]
    exact hbk
  have d0 : w2.cell? ⟨b, 0, none⟩ = some (.pointer (some ⟨b, 0, none⟩)) := by rw [Lib.cell_of_heap hb2]; rfl
  have d1 : w2.cell? ⟨b, 1, none⟩ = some v := by rw [Lib.cell_of_heap hb2]; rfl
  have f1 : w2.frozen? ⟨b, 1, none⟩ = false := Lib.frozen_of_heap hb2 1
  obtain ⟨ao, n', cap, rfl⟩ : ∃ ao n' cap, v' = .slice ao n' cap := by
    rcases hown'.2 with ⟨hv, _⟩ | ⟨g, cap, cur, hv, _⟩
    · exact ⟨_, _, _, hv⟩
    · exact ⟨_, _, _, hv⟩
  go_wp2
  go_ret2
  refine ⟨rfl, ?_, ?_⟩
  · exact Lib.BuilderAt.put (T := 140) (e := 5) hB hb2 (bs' := bs ++ Lib.strCells s) (by simpa [Lib.strCells_length] using hown') (by decide)
  · exact (hb1.grown hgrow (by have := hb1.size; omega) (fun k hk => (hown.lt k hk).1)).setCell (p := ⟨b, 1, none⟩) hB _
end Go.Proofs.Ytgipepjpkmlmaaa.P
namespace Go.Proofs.Ytgipepjpkmlmaaa.P
open Go.RowKit Go.Proofs.YtgipepjpkmlmaaaW.PrintWords Go.Proofs.YtgipepjpkmlmaaaW.PrintLast Go.Proofs.YtgipepjpkmlmaaaW.PrintMore
set_option linter.unusedVariables false
set_option linter.unusedSimpArgs false
/-- Numbers' bytes, one behind the other. -/
def numsT (l : List Int) : ByteArray := l.foldl (fun s v => s ++ numT v) ⟨#[]⟩
theorem numsT_snoc (l : List Int) (v : Int) : numsT (l ++ [v]) = numsT l ++ numT v := by
  unfold numsT
  rw [List.foldl_append]
  rfl
theorem numsT_size : ∀ (l : List Int), (∀ v ∈ l, -9223372036854775808 ≤ v ∧ v ≤ 9223372036854775807) → (numsT l).size ≤ 10 * l.length := by
  intro l
  induction hn : l.length generalizing l with
  | zero =>
    intro _
    rw [List.length_eq_zero_iff.1 hn]
    exact Nat.le_refl _
  | succ n ih =>
    intro h
    rcases List.eq_nil_or_concat l with rfl | ⟨l', v, rfl⟩
    · cases hn
    · rw [List.concat_eq_append] at hn h ⊢
      rw [List.length_append, List.length_singleton] at hn
      rw [numsT_snoc, ByteArray.size_append]
      have h1 := ih l' (by omega) (fun x hx => h x (List.mem_append_left _ hx))
      have hv := h v (List.mem_append_right _ (List.mem_singleton.2 rfl))
      have h2 := numT_size v hv.1 hv.2
      omega
theorem builder_below {B b : Nat} {p : Value} {bs : List Value} {w w1 : World} (h : Lib.BuilderAt 140 5 B b p bs w) (hb : Below w.heap.size w w1) : Lib.BuilderAt 140 5 B b p bs w1 := by
  obtain ⟨hB, v, hbk, hown, hne⟩ := h
  exact ⟨hB, v, blk_below hbk hb, pw_own_below hown hb, hne⟩
theorem isBuilder_below {B b : Nat} {bs : List Value} {w w1 : World} (h : Lib.IsBuilder 140 5 B b bs w) (hb : Below w.heap.size w w1) : Lib.IsBuilder 140 5 B b bs w1 := by
  rcases h with h | h
  · exact Or.inl (builder_below h hb)
  · exact Or.inr (builder_below h hb)
theorem take_snoc (l : List Int) (i : Nat) (h : i < l.length) : l.take (i + 1) = l.take i ++ [rd l (i : Int)] := by
  rw [List.take_succ_eq_append_getElem h]
  unfold rd
  rw [Int.toNat_natCast, List.getD_eq_getElem?_getD, List.getElem?_eq_getElem h]
  rfl
theorem rd_mem (l : List Int) (i : Nat) (h : i < l.length) : rd l (i : Int) ∈ l := by
  unfold rd
  rw [Int.toNat_natCast, List.getD_eq_getElem?_getD, List.getElem?_eq_getElem h]
  exact List.getElem_mem h
set_option maxHeartbeats 4000000 in
set_option maxRecDepth 100000 in
theorem putAll_calls (l : List Int) (hv : ∀ v ∈ l, -9223372036854775808 ≤ v ∧ v ≤ 9223372036854775807) (hl : l.length ≤ 1000) (A : Option Addr) (c : Nat) (w : World) (hr : (Kd.int .i64).C w A l.length l) (hc : l.length ≤ c) :
    Calls Try.prog 88 #[.slice A l.length c] w fun e w' => e = .returned (.string (numsT l)) ∧ Below w.heap.size w w' := by
  obtain ⟨W0, hW0⟩ : ∃ W, W = w.alloc (.cells #[.pointer none, .slice none 0 0] 140) := ⟨_, rfl⟩
  have hb0 : Lib.IsBuilder 140 5 w.heap.size w.heap.size (Lib.byteCells (numsT (l.take 0)).data.toList) W0 := by rw [hW0]; exact Lib.fresh_isBuilder 140 5 w
  have hbw0 : Below w.heap.size w W0 := by rw [hW0]; exact (Below.refl _ _).alloc (Nat.le_refl _) _
  have hpa := fun (i : Nat) => numsT_size (l.take i) (fun x hx => hv x (List.mem_of_mem_take hx))
  have HPA := Lib.hid hpa
  have HV := Lib.hid hv
  have HC := Lib.hid hr
  have HW0 := Lib.hid hW0
  have HB0 := Lib.hid hb0
  have HBW := Lib.hid hbw0
  clear hW0 hb0 hbw0 hv hpa hr
  go_enter Try.func88, Try.ntmps88
  go_upto_region 2 with fail
  rw [← HW0.out]
  go_wp2
  go_loopg [8] l.length (fun kq v8 WX => ∃ (i : Nat), v8 = .int .i64 (i : Int) ∧ i ≤ l.length ∧ l.length - i ≤ kq ∧ Lib.IsBuilder 140 5 w.heap.size w.heap.size (Lib.byteCells (numsT (l.take i)).data.toList) WX ∧ Below w.heap.size w WX)
  case atStart => exact ⟨0, rfl, Nat.zero_le _, by omega, HB0.out, HBW.out⟩
  case round =>
    obtain ⟨i, rfl, hil, hik, hbd, hbr⟩ := hrel
    have HBD := Lib.hid hbd
    have HBR := Lib.hid hbr
    clear hbd hbr
    by_cases hlt : i < l.length
    rotate_left
    · have d1 : decide ((i : Int) < (l.length : Int)) = false := decide_eq_false (by omega)
      have e : l.take i = l := List.take_of_length_le (by omega)
      have HS := Try.Builder_String_any w.heap.size w.heap.size (numsT l).data.toList wr (by have h := HBD.out; rw [e] at h; exact h) HBR.out.size
      rw [Array.toArray_toList] at HS
      clear e
      have HS' := Lib.hid HS
      clear HS
      go_wp2_with (first | (go_at_call 98; refine (HS'.out).mono ?_; rintro e w2 ⟨rfl, hb2⟩; have HB2 := Lib.hid hb2; clear hb2))
      go_ret
      exact ⟨rfl, HBR.out.trans HB2.out⟩
    · have d1 : decide ((i : Int) < (l.length : Int)) = true := decide_eq_true (by omega)
      have hwi : IntKind.i64.wrap ((i : Int) + 1) = (i : Int) + 1 := by rw [IntKind.wrap_i64]; omega
      have hbi : (0 : Int) ≤ (i : Int) ∧ (i : Int) < (l.length : Int) := by omega
      obtain ⟨ad, had, hx⟩ := Kd.at_int (Kd.C_below HC.out HBR.out) (i : Int) (by omega) (by omega)
      cases had
      rw [Int.toNat_natCast] at hx
      have htk := take_snoc l i hlt
      have hvx := HV.out _ (rd_mem l i hlt)
      obtain ⟨x, hxe⟩ : ∃ x, rd l (i : Int) = x := ⟨_, rfl⟩
      rw [hxe] at hx htk hvx
      have HTK := Lib.hid htk
      have hput := fun w => put_calls x hvx.1 hvx.2 w
      have hps := numT_size x hvx.1 hvx.2
      have hpa := HPA.out i
      rw [List.length_take] at hpa
      have hll : (Lib.byteCells (numsT (l.take i)).data.toList).length + (numT x).size ≤ 140737488355328 := by
        rw [Lib.byteCells_length, Array.length_toList]
        show (numsT (l.take i)).size + _ ≤ _
        omega
      have HLL := Lib.hid hll
      have HPUT := Lib.hid hput
      clear htk hvx hxe hput hps hpa hll
      cases gk with
      | zero => omega
      | succ gk =>
      go_wp2_with (first | (go_at_call 89; refine (HPUT.out _).mono ?_; rintro e w2 ⟨rfl, hb2⟩; have HB2 := Lib.hid hb2; clear hb2) | (go_at_call 97; go_loud (refine (writeString_calls w.heap.size w.heap.size _ (numT x) w2 (isBuilder_below HBD.out HB2.out) HLL.out (Nat.le_trans HBR.out.size HB2.out.size)).mono ?_; rintro e w3 ⟨rfl, hb3, hbb3⟩; have HB3 := Lib.hid hb3; have HBB3 := Lib.hid hbb3; clear hb3 hbb3)))
      go_roundg gk
      case measure => omega
      case rel =>
        refine ⟨i + 1, by first | rfl | (congr 1), by omega, by omega, Or.inr ?_, (HBR.out.trans (HB2.out.mono HBR.out.size)).trans HBB3.out⟩
        rw [HTK.out, numsT_snoc, ByteArray.data_append, Array.toList_append]
        have h := HB3.out
        unfold Lib.byteCells at h ⊢
        rw [List.map_append]
        exact h
end Go.Proofs.Ytgipepjpkmlmaaa.P
namespace Go.Proofs.Ytgipepjpkmlmaaa.P
open Go.RowKit Go.Proofs.YtgipepjpkmlmaaaW.PrintWords Go.Proofs.YtgipepjpkmlmaaaW.PrintLast Go.Proofs.YtgipepjpkmlmaaaW.PrintMore
set_option linter.unusedVariables false
set_option linter.unusedSimpArgs false
theorem tk_size (s : ByteArray) : ∀ f k u, (tkL s f k u).2.1.size ≤ s.size
  | 0, _, _ => Nat.zero_le _
  | f + 1, k, u => by
    rw [tkL]
    split
    · exact Nat.zero_le _
    · split
      · exact tk_size s f (k + 1) _
      · split
        · exact Nat.zero_le _
        · show (s.extract (k + 1) s.size).size ≤ s.size
          rw [ByteArray.size_extract]
          omega
theorem tk_e (s : ByteArray) : ∀ f k u, (tkL s f k u).2.2 = 0 ∨ (tkL s f k u).2.2 = 2
  | 0, _, _ => .inr rfl
  | f + 1, k, u => by
    rw [tkL]
    split
    · exact .inr rfl
    · split
      · exact tk_e s f (k + 1) _
      · split
        · exact .inr rfl
        · exact .inl rfl
/-- A number's bytes, and what stands behind them. -/
theorem take_num (v : Int) (h0 : -9223372036854775808 ≤ v) (h1 : v ≤ 9223372036854775807) (r : ByteArray) : tkL (numT v ++ r) 11 0 0 = (v, r, 0) := by
  have hr := foldU_range v h0 h1
  have h128 : foldU v < 128 ^ (9 + 1) := by
    have e : (128 : Int) ^ (9 + 1) = 1180591620717411303424 := by decide
    omega
  obtain ⟨pre, b, e, hp, b0, b1, hl⟩ := enc_shape 9 (foldU v) hr.1 h128
  have hrng := enc_range 9 (foldU v) hr.1 h128
  obtain ⟨s, hs⟩ : ∃ s, numT v ++ r = s := ⟨_, rfl⟩
  have hsz0 : (numT v).size = pre.length + 1 := by
    have h := (bytes_iff (numT v) (encI 9 (foldU v)) hrng (numT v).size (Nat.le_refl _)).1 (by unfold numT; rw [ByteArray.extract_zero_size])
    have := congrArg List.length h
    rw [e, bts_length, List.length_append, List.length_singleton] at this
    exact this.symm
  have hsz : s.size = pre.length + 1 + r.size := by rw [← hs, ByteArray.size_append, hsz0]
  have hext : s.extract 0 (pre.length + 1) = numT v := by
    rw [← hs, ← hsz0]
    exact ByteArray.extract_append_eq_left rfl
  have hbts : encI 9 (foldU v) = bts s (pre.length + 1) := (bytes_iff s (encI 9 (foldU v)) hrng (pre.length + 1) (by omega)).1 (by rw [hext]; rfl)
  have hbt : ∀ j (hj : j < pre.length + 1), bt s (j : Int) = (pre ++ [b])[j]'(by rw [List.length_append, List.length_singleton]; exact hj) := by
    intro j hj
    have h : (pre ++ [b])[j]? = (bts s (pre.length + 1))[j]? := by rw [← e, hbts]
    rw [List.getElem?_eq_getElem (by rw [List.length_append, List.length_singleton]; exact hj)] at h
    unfold bts at h
    rw [List.getElem?_map, List.getElem?_range hj] at h
    exact (Option.some.inj h).symm
  have hsc : scanK s 10 0 = some pre.length := by
    refine scan_of s pre.length (by omega) ?_ (fun j hj => ?_) 10 0 (Nat.zero_le _) (by omega)
    · rw [hbt _ (by omega), List.getElem_append_right (Nat.le_refl _)]
      simp only [Nat.sub_self, List.getElem_singleton]
      exact b1
    · rw [hbt _ (by omega), List.getElem_append_left hj]
      exact (hp _ (List.getElem_mem hj)).1
  have hdec : decI (bts s (pre.length + 1)) = foldU v := by
    rw [← hbts]
    exact dec_enc 9 _ hr.1 h128
  have hnb : ¬ badK s pre.length := by
    rw [← end_iff s pre.length hsc, hdec, show foldU v % 18446744073709551616 = foldU v by omega, hext]
    rfl
  have h2 := (tk_some s 10 0 0 pre.length (by omega) hsc).2 hnb
  have h3 := (tk_val s 10 0 0 pre.length (by omega) hsc hnb rfl).1
  rw [hdec, numU_fold v h0 h1] at h3
  have h4 : s.extract (pre.length + 1) s.size = r := by
    rw [hsz, ← hs, ← hsz0, show (numT v).size + r.size = (numT v ++ r).size by rw [ByteArray.size_append]]
    exact ByteArray.extract_append_eq_right rfl (by rw [ByteArray.size_append])
  rw [h4] at h2
  rw [hs]
  exact Prod.ext h3 (Prod.ext h2.2 h2.1)
/-- What TakeAll answers. -/
def takeAllL : Nat → ByteArray → List Int → List Int × ByteArray × Int
  | 0, s, l => (l, s, 0)
  | n + 1, s, l => if (tkL s 11 0 0).2.2 = 0 then takeAllL n (tkL s 11 0 0).2.1 (l ++ [(tkL s 11 0 0).1]) else ([], ⟨#[]⟩, (tkL s 11 0 0).2.2)
theorem takeAll_app : ∀ (vs l : List Int) (r : ByteArray), (∀ v ∈ vs, -9223372036854775808 ≤ v ∧ v ≤ 9223372036854775807) → takeAllL vs.length ((vs.foldr (fun v s => numT v ++ s) r)) l = (l ++ vs, r, 0)
  | [], l, r, _ => by simp [takeAllL]
  | v :: vs, l, r, h => by
    have hv := h v List.mem_cons_self
    show takeAllL (vs.length + 1) (numT v ++ vs.foldr (fun v s => numT v ++ s) r) l = _
    rw [takeAllL, take_num v hv.1 hv.2, if_pos rfl]
    show takeAllL vs.length (vs.foldr (fun v s => numT v ++ s) r) (l ++ [v]) = _
    rw [takeAll_app vs (l ++ [v]) r (fun x hx => h x (List.mem_cons_of_mem _ hx)), List.append_assoc]
    rfl
theorem foldl_app (vs : List Int) : ∀ s : ByteArray, vs.foldl (fun s v => s ++ numT v) s = s ++ vs.foldr (fun v s => numT v ++ s) ⟨#[]⟩ := by
  induction vs with
  | nil => intro s; exact (ByteArray.append_empty).symm
  | cons v vs ih =>
    intro s
    show vs.foldl _ (s ++ numT v) = s ++ (numT v ++ _)
    rw [ih, ByteArray.append_assoc]
theorem nums_foldr (vs : List Int) : numsT vs = vs.foldr (fun v s => numT v ++ s) ⟨#[]⟩ := by
  unfold numsT
  rw [foldl_app]
  exact ByteArray.empty_append
theorem takeAll_nums (vs : List Int) (h : ∀ v ∈ vs, -9223372036854775808 ≤ v ∧ v ≤ 9223372036854775807) : takeAllL vs.length (numsT vs) [] = (vs, ⟨#[]⟩, 0) := by
  rw [nums_foldr]
  exact takeAll_app vs [] ⟨#[]⟩ h
theorem take_nums (v : Int) (vs : List Int) (h0 : -9223372036854775808 ≤ v) (h1 : v ≤ 9223372036854775807) : tkL (numsT (v :: vs)) 11 0 0 = (v, numsT vs, 0) := by
  rw [nums_foldr, nums_foldr]
  exact take_num v h0 h1 _
set_option maxHeartbeats 8000000 in
set_option maxRecDepth 100000 in
theorem takeAll_calls (s : ByteArray) (n : Nat) (hn : n ≤ 64) (hs : s.size ≤ 1000000000) (w : World) :
    Calls Try.prog 69 #[.string s, .int .i64 (n : Int)] w fun e w' => ∃ v, e = .returned (.tuple #[v, .string (takeAllL n s []).2.1, .int .i64 (takeAllL n s []).2.2]) ∧ Kd.R (Kd.int .i64) 3 w' w.heap.size (fun _ => True) v (takeAllL n s []).1 ∧ Below w.heap.size w w' := by
  obtain ⟨T, hT⟩ : ∃ T, takeAllL n s [] = T := ⟨_, rfl⟩
  obtain ⟨t1, t2, t3⟩ := T
  rw [hT]
  have HT := Lib.hid hT
  have b0 : decide ((n : Int) < 0) = false := decide_eq_false (by omega)
  have b1 : decide (64 < (n : Int)) = false := decide_eq_false (by omega)
  clear hT
  go_enter Try.func69, Try.ntmps69
  go_upto_region 4 with fail
  go_wp2
  go_loopg [0, 7, 18] n (fun kq v0 v7 v18 WX => ∃ (i : Nat) (s2 : ByteArray) (l : List Int) (A7 : Option Addr) (c7 n7 : Nat), v0 = .string s2 ∧ v7 = .slice A7 n7 c7 ∧ v18 = .int .i64 (i : Int) ∧ i ≤ n ∧ n - i ≤ kq ∧ n7 = l.length ∧ n7 = i ∧ s2.size ≤ s.size ∧ Kd.R (Kd.int .i64) 3 WX w.heap.size (fun _ => True) (.slice A7 n7 c7) l ∧ Below w.heap.size w WX ∧ takeAllL (n - i) s2 l = (t1, t2, t3))
  case atStart => exact ⟨0, s, [], none, 0, 0, rfl, rfl, rfl, Nat.zero_le _, by omega, rfl, rfl, Nat.le_refl _, Kd.R_nil _ _ _ _ _, Below.refl _ _, HT.out⟩
  case round =>
    obtain ⟨i, s2, l, A7, c7, n7, rfl, rfl, rfl, hin, hik, e7, ei, hsz, hR7, hbr, hta⟩ := hrel
    have HR7 := Lib.hid hR7
    have HBR := Lib.hid hbr
    have HE7 := Lib.hid e7
    have HEI := Lib.hid ei
    clear hR7 hbr e7 ei
    by_cases hlt : i < n
    rotate_left
    · have d1 : decide ((i : Int) < (n : Int)) = false := decide_eq_false (by omega)
      rw [show n - i = 0 by omega] at hta
      obtain ⟨rfl, rfl, rfl⟩ : l = t1 ∧ s2 = t2 ∧ 0 = t3 := by
        have h1 := congrArg Prod.fst hta
        have h2 := congrArg (fun p => p.2.1) hta
        have h3 := congrArg (fun p => p.2.2) hta
        exact ⟨h1, h2, h3⟩
      clear hta
      go_wp2
      go_ret3
      exact ⟨_, rfl, HR7.out, HBR.out⟩
    · have d1 : decide ((i : Int) < (n : Int)) = true := decide_eq_true (by omega)
      have hwi : IntKind.i64.wrap ((i : Int) + 1) = ((i + 1 : Nat) : Int) := by rw [IntKind.wrap_i64]; omega
      rw [show n - i = (n - (i + 1)) + 1 by omega, takeAllL] at hta
      have hvt := fun w => vtake_calls s2 w (by omega)
      have hts := tk_size s2 11 0 0
      have hte := tk_e s2 11 0 0
      obtain ⟨q, hq⟩ : ∃ q, tkL s2 11 0 0 = q := ⟨_, rfl⟩
      obtain ⟨x, r, e⟩ := q
      rw [hq] at hta hvt hts hte
      have HTA := Lib.hid hta
      have HVT := Lib.hid hvt
      have HTS := Lib.hid hts
      have HSZ := Lib.hid hsz
      clear hq hta hvt hts hsz
      cases gk with
      | zero => omega
      | succ gk =>
      rcases hte with he | he
      · obtain rfl : e = 0 := he
        have hl7 : (l.length + 1) * 8 ≤ 140737488355328 := by have h1 := HE7.out; have h2 := HEI.out; omega
        have HL7 := Lib.hid hl7
        clear hl7
        go_wp2_with (first | (go_at_call 68; go_loud ((with_reducible refine (HVT.out _).mono ?_); rintro e w3 ⟨rfl, hb3⟩; have HR8 := Lib.hid (Kd.R_below HR7.out hb3); have HB8 := Lib.hid (HBR.out.trans (hb3.mono HBR.out.size)); clear hb3)) | ((with_reducible refine gate_builtin (b := .append) (xs := #[.tmp 29, .tmp 31]) rfl ?_); at_builtin; go_loud (refine Kd.R_append (Kd.int .i64) (w0 := w) w.heap.size rfl (.tmp 29) (.tmp 31) 53 3 (.int .i64 0) 8 rfl Try.underlying53 info3 rfl (by decide) (by omega) (.slice A7 n7 c7) l x [.int .i64 x] (fun _ => True) (fun _ => False) rfl rfl ?aP (fun _ hk => hk.elim) ?aF HR8.out HB8.out HB8.out.size ?aL ?_; (case aP => exact rfl); (case aF => exact (fun _ _ => trivial)); (case aL => exact HL7.out); intro v9 w9 ho hb hg hat; obtain ⟨A9, c9, hv9, hc9, _⟩ := Kd.R_reads ho; have hln : (l ++ [x]).length = n7 + 1 := (by have h_ := HE7.out; simp only [List.length_append, List.length_cons, List.length_nil]; omega); rw [hln] at hv9; subst hv9; have HR9 := Lib.hid ho; have HB9 := Lib.hid hb; clear ho hb hg hat hln)))
        go_roundg gk
        case measure => omega
        case rel =>
          refine ⟨i + 1, r, l ++ [x], A9, c9, n7 + 1, rfl, rfl, by first | rfl | (congr 1), by omega, by omega, by rw [List.length_append, HE7.out]; rfl, by have := HEI.out; omega, Nat.le_trans HTS.out HSZ.out, HR9.out, HB9.out, ?_⟩
          have h := HTA.out
          rw [if_pos trivial] at h
          exact h
      · obtain rfl : e = 2 := he
        have h := HTA.out
        rw [if_neg (show ¬ (2 : Int) = 0 by decide)] at h
        obtain ⟨rfl, rfl, rfl⟩ : [] = t1 ∧ ⟨#[]⟩ = t2 ∧ 2 = t3 := ⟨congrArg Prod.fst h, congrArg (fun p => p.2.1) h, congrArg (fun p => p.2.2) h⟩
        clear h HTA
        go_wp2_with (first | (go_at_call 68; go_loud ((with_reducible refine (HVT.out _).mono ?_); rintro e w3 ⟨rfl, hb3⟩; have HB8 := Lib.hid (HBR.out.trans (hb3.mono HBR.out.size)); clear hb3)))
        go_ret3
        exact ⟨_, rfl, Kd.R_nil _ _ _ _ _, HB8.out⟩
end Go.Proofs.Ytgipepjpkmlmaaa.P
