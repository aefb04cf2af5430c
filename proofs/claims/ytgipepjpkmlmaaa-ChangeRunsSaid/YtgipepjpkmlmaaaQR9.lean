import Derived.OpenShut
import Derived.WideShapes
import Derived.Test.YtgipepjpkmlmaaaQR2
import Derived.Test.YtgipepjpkmlmaaaQR3
import Derived.Test.YtgipepjpkmlmaaaQR4
import Derived.Test.YtgipepjpkmlmaaaQR5
import Derived.Test.YtgipepjpkmlmaaaQR6
import Derived.Test.YtgipepjpkmlmaaaQR7
import Derived.Test.YtgipepjpkmlmaaaQR8
namespace Go.Proofs.Ytgipepjpkmlmaaa.P
open Go.RowKit Go.Proofs.YtgipepjpkmlmaaaW.PrintWords Go.Proofs.YtgipepjpkmlmaaaW.PrintLast Go.Proofs.YtgipepjpkmlmaaaW.PrintMore
set_option linter.unusedVariables false
set_option linter.unusedSimpArgs false
/-- A number, folded to one that is not below nothing. -/
def foldU (v : Int) : Int := if 0 ≤ v then 2 * v else -2 * v - 1
theorem foldU_range (v : Int) (h0 : -9223372036854775808 ≤ v) (h1 : v ≤ 9223372036854775807) : 0 ≤ foldU v ∧ foldU v < 18446744073709551616 := by unfold foldU; split <;> omega
theorem numU_fold (v : Int) (h0 : -9223372036854775808 ≤ v) (h1 : v ≤ 9223372036854775807) : numU (foldU v) = v := by
  unfold foldU
  by_cases c : 0 ≤ v
  · rw [if_pos c]
    unfold numU
    rw [Int.tdiv_eq_ediv_of_nonneg (by omega), Int.tmod_eq_emod_of_nonneg (by omega), if_neg (by omega), wraps_u64 _ (by omega) (by omega)]
    unfold wrap64
    omega
  · rw [if_neg c]
    unfold numU
    rw [Int.tdiv_eq_ediv_of_nonneg (by omega), Int.tmod_eq_emod_of_nonneg (by omega), if_pos (by omega), wraps_u64 _ (by omega) (by omega)]
    unfold wrap64
    omega
/-- A number's bytes, as a text. -/
def numT (v : Int) : ByteArray := strOfNums (encI 9 (foldU v))
theorem numT_ref (v : Int) (h0 : -9223372036854775808 ≤ v) (h1 : v ≤ 9223372036854775807) : headgateref01_Put.f 11 v = some (numT v) := by
  have hr := foldU_range v h0 h1
  have h := put_num (foldU v) 11 hr.1 hr.2 (Nat.le_refl _)
  rw [numU_fold v h0 h1] at h
  exact h
theorem numT_size (v : Int) (h0 : -9223372036854775808 ≤ v) (h1 : v ≤ 9223372036854775807) : (numT v).size ≤ 10 := by
  obtain ⟨s, h2, _, h3⟩ := put_val v h0 h1
  rw [numT_ref v h0 h1] at h2
  injection h2 with h2
  rw [h2]
  exact h3
def u8s (l : List Int) : List Value := l.map (Value.int .u8)
theorem or128 (x : Int) (h0 : 0 ≤ x) (h1 : x ≤ 255) : bits .or .u8 x 128 = x % 128 + 128 := by
  obtain ⟨n, rfl⟩ := Int.eq_ofNat_of_zero_le h0
  have h : ∀ n : Fin 256, bits .or .u8 ((n.val : Nat) : Int) 128 = ((n.val : Nat) : Int) % 128 + 128 := by decide +kernel
  exact h ⟨n, by omega⟩
theorem xor_ones64 (x : Int) (h0 : 0 ≤ x) (h1 : x < 18446744073709551616) : bits .xor .u64 x 18446744073709551615 = 18446744073709551615 - x := by
  unfold bits
  have e : BitVec.ofInt IntKind.u64.bits 18446744073709551615 = BitVec.allOnes 64 := by rfl
  simp only [e]
  show IntKind.u64.wrap (((BitVec.ofInt 64 x ^^^ BitVec.allOnes 64).toNat : Nat) : Int) = _
  rw [BitVec.xor_allOnes, BitVec.toNat_not, BitVec.toNat_ofInt, wraps_u64 _ (by omega) (by omega)]
  omega
theorem xor_none64 (x : Int) (h0 : 0 ≤ x) (h1 : x < 18446744073709551616) : bits .xor .u64 x 0 = x := by
  unfold bits
  have e : BitVec.ofInt IntKind.u64.bits 0 = 0#64 := by rfl
  simp only [e]
  show IntKind.u64.wrap (((BitVec.ofInt 64 x ^^^ 0#64).toNat : Nat) : Int) = x
  rw [BitVec.xor_zero, BitVec.toNat_ofInt, wraps_u64 _ (by omega) (by omega)]
  omega
theorem fold_code (v : Int) (h0 : -9223372036854775808 ≤ v) (h1 : v ≤ 9223372036854775807) : bits .xor .u64 (IntKind.u64.wrap (IntKind.u64.wrap v * 2)) (IntKind.u64.wrap (v / 9223372036854775808)) = foldU v := by
  have hw : ∀ x : Int, IntKind.u64.wrap x = x % 18446744073709551616 := fun x => rfl
  unfold foldU
  by_cases c : 0 ≤ v
  · rw [if_pos c, hw (v / 9223372036854775808), show v / 9223372036854775808 % 18446744073709551616 = 0 by omega, hw, hw, xor_none64 _ (by omega) (by omega)]
    omega
  · rw [if_neg c, hw (v / 9223372036854775808), show v / 9223372036854775808 % 18446744073709551616 = 18446744073709551615 by omega, hw, hw, xor_ones64 _ (by omega) (by omega)]
    omega
theorem pre_cell (a b : List Value) (x : Value) (n : Nat) (h : a.length = n) : (a ++ x :: b).toArray[n]? = some x := by
  subst h
  simp
set_option maxHeartbeats 4000000 in
set_option maxRecDepth 100000 in
theorem put_calls (v : Int) (h0 : -9223372036854775808 ≤ v) (h1 : v ≤ 9223372036854775807) (w : World) :
    Calls Try.prog 89 #[.int .i64 v] w fun e w' => e = .returned (.string (numT v)) ∧ Below w.heap.size w w' := by
  have hr := foldU_range v h0 h1
  obtain ⟨W0, hW0⟩ : ∃ W, W = w.alloc (.cells #[.int .u8 0, .int .u8 0, .int .u8 0, .int .u8 0, .int .u8 0, .int .u8 0, .int .u8 0, .int .u8 0, .int .u8 0, .int .u8 0] 146) := ⟨_, rfl⟩
  have hb0 : W0.heap[w.heap.size]? = some (.cells #[.int .u8 0, .int .u8 0, .int .u8 0, .int .u8 0, .int .u8 0, .int .u8 0, .int .u8 0, .int .u8 0, .int .u8 0, .int .u8 0] 146 (0, 0)) := by rw [hW0]; exact heap_alloc_new _ _
  have hbw0 : Below w.heap.size w W0 := by rw [hW0]; exact (Below.refl _ _).alloc (Nat.le_refl _) _
  have hfc := fold_code v h0 h1
  have hzr : ∀ n, n ≤ 9 → (List.replicate (10 - n) (Value.int .u8 0)) = .int .u8 0 :: List.replicate (9 - n) (Value.int .u8 0) := fun n hn => by rw [show 10 - n = (9 - n) + 1 by omega]; rfl
  have HW0 := Lib.hid hW0
  have HB0 := Lib.hid hb0
  have HBW := Lib.hid hbw0
  have HR := Lib.hid hr
  clear hW0 hb0 hbw0 hr
  go_enter Try.func89, Try.ntmps89
  go_upto_block 0 with fail
  rw [← HW0.out]
  go_wp2
  go_loopg [3, 5] 10 (fun kq v3 v5 WX => ∃ (k : Nat) (u : Int) (pre : List Int), v5 = .int .i64 (k : Int) ∧ v3 = .int .u64 u ∧ k ≤ 9 ∧ 10 - k ≤ kq ∧ pre.length = k ∧ pre ++ encI (9 - k) u = encI 9 (foldU v) ∧ 0 ≤ u ∧ u < 128 ^ (10 - k) ∧ u < 18446744073709551616 ∧ WX.heap[w.heap.size]? = some (.cells (u8s pre ++ List.replicate (10 - k) (Value.int .u8 0)).toArray 146 (0, 0)) ∧ Below w.heap.size w WX)
  case atStart =>
    refine ⟨0, foldU v, [], rfl, rfl, by omega, by omega, rfl, rfl, HR.out.1, ?_, HR.out.2, HB0.out, HBW.out⟩
    have e : (128 : Int) ^ (10 - 0) = 1180591620717411303424 := by decide
    have := HR.out.2
    omega
  case round =>
    obtain ⟨k, u, pre, rfl, rfl, hk, hkk, hpl, hen, hu0, hu1, hu2, hbk, hbr⟩ := hrel
    rw [hzr k hk] at hbk
    have hpl2 : (u8s pre).length = k := by unfold u8s; rw [List.length_map]; exact hpl
    have hc : wr.cell? ⟨w.heap.size, k, none⟩ = some (.int .u8 0) := (blk_cell hbk k).trans (pre_cell _ _ _ _ hpl2)
    have hfz : wr.frozen? ⟨w.heap.size, k, none⟩ = false := blk_frozen hbk k
    have hbi : (0 : Int) ≤ (k : Int) ∧ (k : Int) < 10 := by omega
    have hset := fun y => blk_put hbk k y (cs' := (u8s pre ++ y :: List.replicate (9 - k) (Value.int .u8 0)).toArray) (by rw [← hpl2]; simp)
    have HSET := Lib.hid hset
    have HBR := Lib.hid hbr
    have HEN := Lib.hid hen
    have HPL := Lib.hid hpl
    have hw8 : IntKind.u8.wrap u = u % 256 := by rfl
    by_cases hlt : 128 ≤ u
    · have hk8 : k ≤ 8 := by
        by_cases h9 : k = 9
        · subst h9
          have e : (128 : Int) ^ (10 - 9) = 128 := by decide
          omega
        · omega
      have d : decide (128 ≤ u) = true := decide_eq_true hlt
      have ho : bits .or .u8 (u % 256) 128 = u % 128 + 128 := by rw [or128 _ (by omega) (by omega)]; omega
      have ht : Int.tdiv u 128 = u / 128 := Int.tdiv_eq_ediv_of_nonneg hu0
      have hwk : IntKind.i64.wrap ((k : Int) + 1) = (k : Int) + 1 := by rw [IntKind.wrap_i64]; omega
      have hw5 : IntKind.u64.wrap (u / 128) = u / 128 := wraps_u64 _ (by omega) (by omega)
      cases gk with
      | zero => omega
      | succ gk =>
      clear hbk hset hbr hen hpl
      go_wp2
      go_roundg gk
      case measure => omega
      case rel =>
        refine ⟨k + 1, u / 128, pre ++ [u % 128 + 128], by first | rfl | (congr 1), rfl, by omega, by omega, by rw [List.length_append, HPL.out]; rfl, ?_, by omega, ?_, by omega, ?_, HBR.out.setCell (Nat.le_refl _) _⟩
        · rw [← HEN.out, show 9 - k = (9 - (k + 1)) + 1 by omega, encI, if_pos (by omega), List.append_assoc]
          rfl
        · refine Int.ediv_lt_of_lt_mul (by omega) ?_
          have e := Int.pow_succ 128 (10 - (k + 1))
          rw [show (10 - (k + 1)).succ = 10 - k by omega] at e
          rw [← e]
          exact hu1
        · rw [HSET.out, show 10 - (k + 1) = 9 - k by omega]
          simp [u8s]
    · have d : decide (128 ≤ u) = false := decide_eq_false hlt
      have hsl : ∀ w2 : World, (Instr.sliceAt 146 (.pointer (some ⟨w.heap.size, 0, none⟩)) none (some (.int .i64 ((k : Int) + 1))) none).run Try.prog w2 = .ok (.slice (some ⟨w.heap.size, 0, none⟩) (k + 1) 10) w2 := by
        intro w2
        have hl : Try.prog.arrayLen 146 = 10 := by kernel_rfl
        rw [run_sliceAt_array_h w2 146 _ (by kernel_rfl) .i64 ((k : Int) + 1) (by omega) (by rw [hl]; omega), hl]
        have hz : (sizeOf (Try.prog.elem 146)).run Try.prog w2 = .ok 1 w2 := by kernel_rfl
        rw [hz]
        unfold slicedAt
        simp [Addr.add]
      have hex : encI 9 (foldU v) = pre ++ [u] := by
        rw [← hen]
        congr 1
        cases hq : 9 - k with
        | zero => rfl
        | succ f => rw [encI, if_neg (by omega)]
      have hcv : (convert 125 9 (.slice (some ⟨w.heap.size, 0, none⟩) (k + 1) 10)).run Try.prog (wr.setCell ⟨w.heap.size, k, none⟩ (.int .u8 (u % 256))) = .ok (.string (numT v)) (wr.setCell ⟨w.heap.size, k, none⟩ (.int .u8 (u % 256))) := by
        unfold numT
        rw [hex]
        refine run_convert_bytes_arg _ 125 5 Try.underlying125 Try.underlying5 w.heap.size 0 (k + 1) 10 (pre ++ [u]) (by rw [List.length_append, hpl]; rfl) (fun i hi => ?_) 9 Try.underlying9
        rw [Nat.zero_add, blk_cell (hset _) i, show u % 256 = u by omega]
        have e : u8s pre ++ Value.int .u8 u :: List.replicate (9 - k) (Value.int .u8 0) = u8s (pre ++ [u]) ++ List.replicate (9 - k) (Value.int .u8 0) := by simp [u8s]
        rw [e]
        have hl : i < (pre ++ [u]).length := by rw [List.length_append, hpl]; exact hi
        simp only [List.getElem?_toArray]
        rw [List.getElem?_append_left (by unfold u8s; rw [List.length_map]; exact hl)]
        unfold u8s
        rw [List.getElem?_map, List.getElem?_eq_getElem hl, List.getD_eq_getElem?_getD, List.getElem?_eq_getElem hl]
        rfl
      have hwk : IntKind.i64.wrap ((k : Int) + 1) = (k : Int) + 1 := by rw [IntKind.wrap_i64]; omega
      clear hbk hset hbr hen hpl hex
      go_wp2
      go_ret
      exact ⟨rfl, HBR.out.setCell (Nat.le_refl _) _⟩
end Go.Proofs.Ytgipepjpkmlmaaa.P
namespace Go.Proofs.Ytgipepjpkmlmaaa.P
set_option linter.unusedVariables false
set_option linter.unusedSimpArgs false
section
open Go.RowKit Go.Proofs.YtgipepjpkmlmaaaW.PrintWords Go.Proofs.YtgipepjpkmlmaaaW.PrintLast Go.Proofs.YtgipepjpkmlmaaaW.PrintMore
/-- How many numbers there are in a row of windows. -/
def cntC (l : List S46) : Int := (l.map (fun c => c.f2.f0)).sum
end
section
open Go.RowKit Go.Proofs.YtgipepjpkmlmaaaW.PrintWords Go.Proofs.YtgipepjpkmlmaaaW.PrintLast Go.Proofs.YtgipepjpkmlmaaaW.PrintMore
def allA (vs : List Int) : S44 := vs.foldl addP z44
/-- Is a record one of a window's? -/
def inW (g : S23) (c : S46) (r : S50) : Bool := (r.f0 == c.f0) && (decide (r.f1 ≥ c.f1) && decide (r.f1 < c.f1 + g.f0))
def mineP (g : S23) (c : S46) (rs : List S50) : List Int := (rs.filter (inW g c)).map (fun r => (valP r.f2).1)
structure WholeI (g : S23) (rs : List S50) (s : S28) (all : List S46) : Prop where
  once : OnceI g s all
  agg : ∀ c ∈ all ++ s.f4, c.f2 = allA (mineP g c rs)
  has : ∀ r ∈ rs, ∀ a ∈ startsP g r.f1, ∃ c ∈ all ++ s.f4, keyC c = (r.f0, a)
  hop : ∀ c ∈ all ++ s.f4, 0 ≤ c.f1 ∧ Int.tmod c.f1 g.f1 = 0
  mark : ∀ r ∈ rs, r.f1 ≤ s.f0
  tim : ∀ r ∈ rs, 0 ≤ r.f1 ∧ r.f1 ≤ 1099511627776
  cnt : cntC (all ++ s.f4) = (rs.map (fun r => ((startsP g r.f1).length : Int))).sum
end
section
open Go.RowKit Go.Proofs.YtgipepjpkmlmaaaW.PrintWords Go.Proofs.YtgipepjpkmlmaaaW.PrintLast Go.Proofs.YtgipepjpkmlmaaaW.PrintMore
/-- A record that the law makes. -/
structure RecOk (r : S50) : Prop where
  k0 : 0 ≤ r.f0
  k1 : r.f0 ≤ 1
  t0 : 0 ≤ r.f1
  t1 : r.f1 ≤ 1099511627776
  v : (valP r.f2).2 = true
end
end Go.Proofs.Ytgipepjpkmlmaaa.P
namespace Go.Proofs.Ytgipepjpkmlmaaa.P
open Go.RowKit Go.Proofs.YtgipepjpkmlmaaaW.PrintWords Go.Proofs.YtgipepjpkmlmaaaW.PrintLast Go.Proofs.YtgipepjpkmlmaaaW.PrintMore
set_option linter.unusedVariables false
set_option linter.unusedSimpArgs false
def put44 (w : World) (g : Nat) (a0 a1 a2 a3 a4 a5 a6 a7 a8 a9 : Value) : World := ((((((((((w.setCell ⟨g, 0, none⟩ a0).setCell ⟨g, 1, none⟩ a1).setCell ⟨g, 2, none⟩ a2).setCell ⟨g, 3, none⟩ a3).setCell ⟨g, 4, none⟩ a4).setCell ⟨g, 5, none⟩ a5).setCell ⟨g, 6, none⟩ a6).setCell ⟨g, 7, none⟩ a7).setCell ⟨g, 8, none⟩ a8).setCell ⟨g, 9, none⟩ a9)
theorem put44_heap {w : World} {g : Nat} {b0 b1 b2 b3 b4 b5 b6 b7 b8 b9 : Value} (h : w.heap[g]? = some (.cells #[b0, b1, b2, b3, b4, b5, b6, b7, b8, b9] 44 (0, 0))) (a0 a1 a2 a3 a4 a5 a6 a7 a8 a9 : Value) : (put44 w g a0 a1 a2 a3 a4 a5 a6 a7 a8 a9).heap[g]? = some (.cells #[a0, a1, a2, a3, a4, a5, a6, a7, a8, a9] 44 (0, 0)) := by
  unfold put44
  have g0 := blk_put (cs' := #[a0, b1, b2, b3, b4, b5, b6, b7, b8, b9]) h 0 a0 rfl
  have g1 := blk_put (cs' := #[a0, a1, b2, b3, b4, b5, b6, b7, b8, b9]) g0 1 a1 rfl
  have g2 := blk_put (cs' := #[a0, a1, a2, b3, b4, b5, b6, b7, b8, b9]) g1 2 a2 rfl
  have g3 := blk_put (cs' := #[a0, a1, a2, a3, b4, b5, b6, b7, b8, b9]) g2 3 a3 rfl
  have g4 := blk_put (cs' := #[a0, a1, a2, a3, a4, b5, b6, b7, b8, b9]) g3 4 a4 rfl
  have g5 := blk_put (cs' := #[a0, a1, a2, a3, a4, a5, b6, b7, b8, b9]) g4 5 a5 rfl
  have g6 := blk_put (cs' := #[a0, a1, a2, a3, a4, a5, a6, b7, b8, b9]) g5 6 a6 rfl
  have g7 := blk_put (cs' := #[a0, a1, a2, a3, a4, a5, a6, a7, b8, b9]) g6 7 a7 rfl
  have g8 := blk_put (cs' := #[a0, a1, a2, a3, a4, a5, a6, a7, a8, b9]) g7 8 a8 rfl
  have g9 := blk_put (cs' := #[a0, a1, a2, a3, a4, a5, a6, a7, a8, a9]) g8 9 a9 rfl
  exact g9
theorem put44_below {B g : Nat} {w0 w : World} (h : Below B w0 w) (hg : B ≤ g) (a0 a1 a2 a3 a4 a5 a6 a7 a8 a9 : Value) : Below B w0 (put44 w g a0 a1 a2 a3 a4 a5 a6 a7 a8 a9) := by
  unfold put44
  exact ((((((((((h.setCell hg _).setCell hg _).setCell hg _).setCell hg _).setCell hg _).setCell hg _).setCell hg _).setCell hg _).setCell hg _).setCell hg _)
end Go.Proofs.Ytgipepjpkmlmaaa.P
namespace Go.Proofs.Ytgipepjpkmlmaaa.P
set_option linter.unusedVariables false
set_option linter.unusedSimpArgs false
section
open Go.RowKit Go.Proofs.YtgipepjpkmlmaaaW.PrintWords Go.Proofs.YtgipepjpkmlmaaaW.PrintLast Go.Proofs.YtgipepjpkmlmaaaW.PrintMore
end
section
open Go.RowKit Go.Proofs.YtgipepjpkmlmaaaW.PrintWords Go.Proofs.YtgipepjpkmlmaaaW.PrintLast Go.Proofs.YtgipepjpkmlmaaaW.PrintMore
open Go.ChangeShapes Go.WideShapes
section
variable {H : Type} {enc : TypeId × Value → H} {w : World} {base : Nat} {spare : Nat → Bool} {held : Bool}
instance : Inhabited S23 := ⟨z23⟩
end
end
section
open Go.RowKit Go.Proofs.YtgipepjpkmlmaaaW.PrintWords Go.Proofs.YtgipepjpkmlmaaaW.PrintLast Go.Proofs.YtgipepjpkmlmaaaW.PrintMore
open Go.Proofs.YtgipepjpkmlmaaaW.PrintWords.Kd
section
variable {P : Program} {o : Oper} {a : Act} {K : Act → World → Prop} {Q : Exit → Act → World → Prop} {α : Type}
end
end
end Go.Proofs.Ytgipepjpkmlmaaa.P
namespace Go.Proofs.Ytgipepjpkmlmaaa.P
open Go.RowKit Go.Proofs.YtgipepjpkmlmaaaW.PrintWords Go.Proofs.YtgipepjpkmlmaaaW.PrintLast Go.Proofs.YtgipepjpkmlmaaaW.PrintMore
set_option linter.unusedVariables false
set_option linter.unusedSimpArgs false
open Go.ChangeShapes Go.WideShapes
def i64R (v : Int) : Prop := -9223372036854775808 ≤ v ∧ v ≤ 9223372036854775807
structure aggR (a : S44) : Prop where
  r0 : i64R a.f0
  r1 : i64R a.f1
  r2 : i64R a.f2
  r3 : i64R a.f3
  r4 : i64R a.f4.f0
  r5 : i64R a.f4.f1
  r6 : i64R a.f4.f2
  r7 : i64R a.f4.f3
  r8 : i64R a.f5
  r9 : i64R a.f6
structure cellR (c : S46) : Prop where
  r0 : i64R c.f0
  r1 : i64R c.f1
  ag : aggR c.f2
structure stateR (s : S28) : Prop where
  r0 : i64R s.f0
  r1 : i64R s.f1
  r2 : i64R s.f2
  r3 : i64R s.f3
  cs : ∀ c ∈ s.f4, cellR c
section
variable {H : Type} {enc : TypeId × Value → H} {w : World} {base : Nat} {spare : Nat → Bool} {held : Bool}
instance : Inhabited S46 := ⟨z46⟩
end
end Go.Proofs.Ytgipepjpkmlmaaa.P
namespace Go.Proofs.Ytgipepjpkmlmaaa.P
open Go.RowKit Go.Proofs.YtgipepjpkmlmaaaW.PrintWords Go.Proofs.YtgipepjpkmlmaaaW.PrintLast Go.Proofs.YtgipepjpkmlmaaaW.PrintMore
set_option linter.unusedVariables false
set_option linter.unusedSimpArgs false
theorem someP_length (l : List S50) : (someP l).length ≤ 150 := by
  unfold someP
  simp
  omega
/-- What a law holds behind its Run: the state's box, what is over, the error. -/
structure RunRes (w wc : World) (p : S28 × List S46 × Int) (v5 v6 v7 : Value) : Prop where
  e0 : v7 = .int .i64 p.2.2
  box : ∃ gb A c, v5 = .pointer (some ⟨gb, 0, none⟩) ∧ wc.heap[gb]? = some (.cells #[.int .i64 p.1.f0, .int .i64 p.1.f1, .int .i64 p.1.f2, .int .i64 p.1.f3, .slice A p.1.f4.length c] 28 (0, 0)) ∧ Kd.R k46 46 wc w.heap.size (fun _ => True) (.slice A p.1.f4.length c) p.1.f4
  row : ∃ A c, v6 = .slice A p.2.1.length c ∧ Kd.R k46 46 wc w.heap.size (fun _ => True) (.slice A p.2.1.length c) p.2.1
end Go.Proofs.Ytgipepjpkmlmaaa.P
