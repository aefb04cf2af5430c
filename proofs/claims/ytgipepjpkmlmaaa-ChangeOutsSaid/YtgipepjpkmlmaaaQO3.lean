import Derived.Test.YtgipepjpkmlmaaaProg
import Derived.Below
import Derived.Deep.Draws
import Derived.Deep.AppendLies
import Derived.Maps.AppendAt
import Derived.OwnWalk
import Derived.Laws.BytesArg
import Derived.Laws.MakeOwn
import Derived.Laws.OwnMore
import Derived.Deep.OwnRows
import Derived.Tactics
import Derived.Lib.ConvBytes
import Derived.Laws.Slices
import Derived.WalkKit
import Derived.KernelRfl
import Derived.RowKit3
import Derived.Deep.LoopGhost
import Derived.Deep.QuietTactic
import Derived.BigQuiet
import Derived.WideLaws
import Derived.Deep.DeepCutAuto
import Derived.Deep.CutBlock
import Derived.Deep.RegionHeld3
import Derived.Laws.Rows
import Derived.Lib.AppendStr
import Derived.ArgAppend
import Derived.Laws.IdiomCopy
import Derived.OrdersHeld
import Derived.Laws.BitsLemmas
import Derived.RowKit
import Derived.Lib.Hide
import Derived.StillTailTactics
import Derived.ScopeJumps
import Derived.WalkMore
import Derived.Deep.RegionWith
import Derived.Laws.CopyOwn
import Derived.Lib.Overlaps
import Derived.Deep.RegionHeld
import Derived.Test.YtgipepjpkmlmaaaQO2
namespace Go.Proofs.Ytgipepjpkmlmaaa.P
open Go.RowKit Go.Proofs.YtgipepjpkmlmaaaW.PrintWords Go.Proofs.YtgipepjpkmlmaaaW.PrintLast Go.Proofs.YtgipepjpkmlmaaaW.PrintMore
attribute [local go_sem] max2_int min2_int max_two min_two max_three min_three max_four min_four   -- for this text's walks alone
set_option linter.unusedVariables false
set_option linter.unusedSimpArgs false
def errW : Option Int → Value
  | none => .nilIface
  | some c => .iface 0 (.int .i64 c)
theorem errW_none : errW none = .nilIface := rfl
theorem errW_some (c : Int) : errW (some c) = .iface 0 (.int .i64 c) := rfl
theorem info3 : (Try.prog.info? 3).map (fun i => (i.zero, i.size, i.bytes)) = some (some (.int .i64 0), 1, 8) := by kernel_rfl
theorem info5 : (Try.prog.info? 5).map (fun i => (i.zero, i.size, i.bytes)) = some (some (.int .u8 0), 1, 1) := by kernel_rfl
theorem info46 : (Try.prog.info? 46).map (fun i => (i.zero, i.size, i.bytes)) = some (some (.agg #[(.int .i64 0), (.int .i64 0), (.int .i64 0), (.int .i64 0), (.int .i64 0), (.int .i64 0), (.int .i64 0), (.int .i64 0), (.int .i64 0), (.int .i64 0), (.int .i64 0), (.int .i64 0)]), 12, 96) := by kernel_rfl
theorem info50 : (Try.prog.info? 50).map (fun i => (i.zero, i.size, i.bytes)) = some (some (.agg #[(.int .i64 0), (.int .i64 0), (.string ⟨#[]⟩)]), 3, 32) := by kernel_rfl
structure S50 where
  f0 : Int
  f1 : Int
  f2 : ByteArray
def z50 : S50 := ⟨(0 : Int), (0 : Int), (⟨#[]⟩ : ByteArray)⟩
def k50 : Kd S50 := Kd.iso (Kd.pair (Kd.int .i64) (Kd.pair (Kd.int .i64) Kd.string)) (fun x : S50 => (x.f0, x.f1, x.f2))
theorem k50_open {w : World} {x : S50} {cs : List Value} (h : k50.K w x cs) : cs = [.int .i64 x.f0, .int .i64 x.f1, .string x.f2] := by
  obtain ⟨_, _, rfl, rfl, ⟨_, _, rfl, rfl, rfl⟩⟩ := h
  exact rfl
theorem k50_openM {w : World} {base : Nat} {ok : Nat → Prop} {x : S50} {cs : List Value} (h : k50.M w base ok x cs) : cs = [.int .i64 x.f0, .int .i64 x.f1, .string x.f2] := by
  obtain ⟨_, _, rfl, rfl, ⟨_, _, rfl, rfl, rfl⟩⟩ := h
  exact rfl
theorem k50_mk (w : World) (x : S50)  : k50.K w x [.int .i64 x.f0, .int .i64 x.f1, .string x.f2] := ⟨[.int .i64 x.f0], [.int .i64 x.f1, .string x.f2], rfl, rfl, ⟨[.int .i64 x.f1], [.string x.f2], rfl, rfl, rfl⟩⟩
theorem k50_mkM (w : World) (base : Nat) (ok : Nat → Prop) (x : S50)  : k50.M w base ok x [.int .i64 x.f0, .int .i64 x.f1, .string x.f2] := ⟨[.int .i64 x.f0], [.int .i64 x.f1, .string x.f2], rfl, rfl, ⟨[.int .i64 x.f1], [.string x.f2], rfl, rfl, rfl⟩⟩
def rd_T50 (xs : List S50) (i : Int) : S50 := xs.getD i.toNat z50
theorem at_T50 {w : World} {A : Option Addr} {n : Nat} {xs : List S50} (h : Kd.C k50 w A n xs) (i : Int) (h0 : 0 ≤ i) (h1 : i < n) : ∃ ad , A = some ad ∧ w.cell? (ad.add (i.toNat * 3)) = some (.int .i64 (rd_T50 xs i).f0) ∧ w.cell? ⟨(ad.add (i.toNat * 3)).block, (ad.add (i.toNat * 3)).off + 1, none⟩ = some (.int .i64 (rd_T50 xs i).f1) ∧ w.cell? ⟨(ad.add (i.toNat * 3)).block, (ad.add (i.toNat * 3)).off + 2, none⟩ = some (.string (rd_T50 xs i).f2) := by
  obtain ⟨ad, c, e, _, hK, hc0⟩ := Kd.C_get h z50 i h0 h1
  have hc : ∀ j u, c[j]? = some u → w.cell? (ad.add (i.toNat * 3 + j)) = some u := hc0
  obtain rfl := k50_open hK
  exact ⟨ad, e, hc 0 _ rfl, by rw [← add_field _ _ 1 (by omega)]; exact hc 1 _ rfl, by rw [← add_field _ _ 2 (by omega)]; exact hc 2 _ rfl⟩
structure S42 where
  f0 : Int
  f1 : Int
  f2 : Int
  f3 : Int
def z42 : S42 := ⟨(0 : Int), (0 : Int), (0 : Int), (0 : Int)⟩
def k42 : Kd S42 := Kd.iso (Kd.pair (Kd.int .i64) (Kd.pair (Kd.int .i64) (Kd.pair (Kd.int .i64) (Kd.int .i64)))) (fun x : S42 => (x.f0, x.f1, x.f2, x.f3))
theorem k42_open {w : World} {x : S42} {cs : List Value} (h : k42.K w x cs) : cs = [.int .i64 x.f0, .int .i64 x.f1, .int .i64 x.f2, .int .i64 x.f3] := by
  obtain ⟨_, _, rfl, rfl, ⟨_, _, rfl, rfl, ⟨_, _, rfl, rfl, rfl⟩⟩⟩ := h
  exact rfl
theorem k42_openM {w : World} {base : Nat} {ok : Nat → Prop} {x : S42} {cs : List Value} (h : k42.M w base ok x cs) : cs = [.int .i64 x.f0, .int .i64 x.f1, .int .i64 x.f2, .int .i64 x.f3] := by
  obtain ⟨_, _, rfl, rfl, ⟨_, _, rfl, rfl, ⟨_, _, rfl, rfl, rfl⟩⟩⟩ := h
  exact rfl
theorem k42_mk (w : World) (x : S42)  : k42.K w x [.int .i64 x.f0, .int .i64 x.f1, .int .i64 x.f2, .int .i64 x.f3] := ⟨[.int .i64 x.f0], [.int .i64 x.f1, .int .i64 x.f2, .int .i64 x.f3], rfl, rfl, ⟨[.int .i64 x.f1], [.int .i64 x.f2, .int .i64 x.f3], rfl, rfl, ⟨[.int .i64 x.f2], [.int .i64 x.f3], rfl, rfl, rfl⟩⟩⟩
theorem k42_mkM (w : World) (base : Nat) (ok : Nat → Prop) (x : S42)  : k42.M w base ok x [.int .i64 x.f0, .int .i64 x.f1, .int .i64 x.f2, .int .i64 x.f3] := ⟨[.int .i64 x.f0], [.int .i64 x.f1, .int .i64 x.f2, .int .i64 x.f3], rfl, rfl, ⟨[.int .i64 x.f1], [.int .i64 x.f2, .int .i64 x.f3], rfl, rfl, ⟨[.int .i64 x.f2], [.int .i64 x.f3], rfl, rfl, rfl⟩⟩⟩
structure S44 where
  f0 : Int
  f1 : Int
  f2 : Int
  f3 : Int
  f4 : S42
  f5 : Int
  f6 : Int
def z44 : S44 := ⟨(0 : Int), (0 : Int), (0 : Int), (0 : Int), z42, (0 : Int), (0 : Int)⟩
def k44 : Kd S44 := Kd.iso (Kd.pair (Kd.int .i64) (Kd.pair (Kd.int .i64) (Kd.pair (Kd.int .i64) (Kd.pair (Kd.int .i64) (Kd.pair k42 (Kd.pair (Kd.int .i64) (Kd.int .i64))))))) (fun x : S44 => (x.f0, x.f1, x.f2, x.f3, x.f4, x.f5, x.f6))
theorem k44_open {w : World} {x : S44} {cs : List Value} (h : k44.K w x cs) : cs = [.int .i64 x.f0, .int .i64 x.f1, .int .i64 x.f2, .int .i64 x.f3, .int .i64 x.f4.f0, .int .i64 x.f4.f1, .int .i64 x.f4.f2, .int .i64 x.f4.f3, .int .i64 x.f5, .int .i64 x.f6] := by
  obtain ⟨_, _, rfl, rfl, ⟨_, _, rfl, rfl, ⟨_, _, rfl, rfl, ⟨_, _, rfl, rfl, ⟨_, _, rfl, s4, ⟨_, _, rfl, rfl, rfl⟩⟩⟩⟩⟩⟩ := h
  obtain rfl := k42_open s4
  exact rfl
theorem k44_openM {w : World} {base : Nat} {ok : Nat → Prop} {x : S44} {cs : List Value} (h : k44.M w base ok x cs) : cs = [.int .i64 x.f0, .int .i64 x.f1, .int .i64 x.f2, .int .i64 x.f3, .int .i64 x.f4.f0, .int .i64 x.f4.f1, .int .i64 x.f4.f2, .int .i64 x.f4.f3, .int .i64 x.f5, .int .i64 x.f6] := by
  obtain ⟨_, _, rfl, rfl, ⟨_, _, rfl, rfl, ⟨_, _, rfl, rfl, ⟨_, _, rfl, rfl, ⟨_, _, rfl, s4, ⟨_, _, rfl, rfl, rfl⟩⟩⟩⟩⟩⟩ := h
  obtain rfl := k42_openM s4
  exact rfl
theorem k44_mk (w : World) (x : S44)  : k44.K w x [.int .i64 x.f0, .int .i64 x.f1, .int .i64 x.f2, .int .i64 x.f3, .int .i64 x.f4.f0, .int .i64 x.f4.f1, .int .i64 x.f4.f2, .int .i64 x.f4.f3, .int .i64 x.f5, .int .i64 x.f6] := ⟨[.int .i64 x.f0], [.int .i64 x.f1, .int .i64 x.f2, .int .i64 x.f3, .int .i64 x.f4.f0, .int .i64 x.f4.f1, .int .i64 x.f4.f2, .int .i64 x.f4.f3, .int .i64 x.f5, .int .i64 x.f6], rfl, rfl, ⟨[.int .i64 x.f1], [.int .i64 x.f2, .int .i64 x.f3, .int .i64 x.f4.f0, .int .i64 x.f4.f1, .int .i64 x.f4.f2, .int .i64 x.f4.f3, .int .i64 x.f5, .int .i64 x.f6], rfl, rfl, ⟨[.int .i64 x.f2], [.int .i64 x.f3, .int .i64 x.f4.f0, .int .i64 x.f4.f1, .int .i64 x.f4.f2, .int .i64 x.f4.f3, .int .i64 x.f5, .int .i64 x.f6], rfl, rfl, ⟨[.int .i64 x.f3], [.int .i64 x.f4.f0, .int .i64 x.f4.f1, .int .i64 x.f4.f2, .int .i64 x.f4.f3, .int .i64 x.f5, .int .i64 x.f6], rfl, rfl, ⟨[.int .i64 x.f4.f0, .int .i64 x.f4.f1, .int .i64 x.f4.f2, .int .i64 x.f4.f3], [.int .i64 x.f5, .int .i64 x.f6], rfl, (k42_mk w x.f4 ), ⟨[.int .i64 x.f5], [.int .i64 x.f6], rfl, rfl, rfl⟩⟩⟩⟩⟩⟩
theorem k44_mkM (w : World) (base : Nat) (ok : Nat → Prop) (x : S44)  : k44.M w base ok x [.int .i64 x.f0, .int .i64 x.f1, .int .i64 x.f2, .int .i64 x.f3, .int .i64 x.f4.f0, .int .i64 x.f4.f1, .int .i64 x.f4.f2, .int .i64 x.f4.f3, .int .i64 x.f5, .int .i64 x.f6] := ⟨[.int .i64 x.f0], [.int .i64 x.f1, .int .i64 x.f2, .int .i64 x.f3, .int .i64 x.f4.f0, .int .i64 x.f4.f1, .int .i64 x.f4.f2, .int .i64 x.f4.f3, .int .i64 x.f5, .int .i64 x.f6], rfl, rfl, ⟨[.int .i64 x.f1], [.int .i64 x.f2, .int .i64 x.f3, .int .i64 x.f4.f0, .int .i64 x.f4.f1, .int .i64 x.f4.f2, .int .i64 x.f4.f3, .int .i64 x.f5, .int .i64 x.f6], rfl, rfl, ⟨[.int .i64 x.f2], [.int .i64 x.f3, .int .i64 x.f4.f0, .int .i64 x.f4.f1, .int .i64 x.f4.f2, .int .i64 x.f4.f3, .int .i64 x.f5, .int .i64 x.f6], rfl, rfl, ⟨[.int .i64 x.f3], [.int .i64 x.f4.f0, .int .i64 x.f4.f1, .int .i64 x.f4.f2, .int .i64 x.f4.f3, .int .i64 x.f5, .int .i64 x.f6], rfl, rfl, ⟨[.int .i64 x.f4.f0, .int .i64 x.f4.f1, .int .i64 x.f4.f2, .int .i64 x.f4.f3], [.int .i64 x.f5, .int .i64 x.f6], rfl, (k42_mkM w base ok x.f4 ), ⟨[.int .i64 x.f5], [.int .i64 x.f6], rfl, rfl, rfl⟩⟩⟩⟩⟩⟩
structure S23 where
  f0 : Int
  f1 : Int
  f2 : Int
def z23 : S23 := ⟨(0 : Int), (0 : Int), (0 : Int)⟩
structure S46 where
  f0 : Int
  f1 : Int
  f2 : S44
def z46 : S46 := ⟨(0 : Int), (0 : Int), z44⟩
def k46 : Kd S46 := Kd.iso (Kd.pair (Kd.int .i64) (Kd.pair (Kd.int .i64) k44)) (fun x : S46 => (x.f0, x.f1, x.f2))
theorem k46_open {w : World} {x : S46} {cs : List Value} (h : k46.K w x cs) : cs = [.int .i64 x.f0, .int .i64 x.f1, .int .i64 x.f2.f0, .int .i64 x.f2.f1, .int .i64 x.f2.f2, .int .i64 x.f2.f3, .int .i64 x.f2.f4.f0, .int .i64 x.f2.f4.f1, .int .i64 x.f2.f4.f2, .int .i64 x.f2.f4.f3, .int .i64 x.f2.f5, .int .i64 x.f2.f6] := by
  obtain ⟨_, _, rfl, rfl, ⟨_, _, rfl, rfl, s2⟩⟩ := h
  obtain rfl := k44_open s2
  exact rfl
theorem k46_openM {w : World} {base : Nat} {ok : Nat → Prop} {x : S46} {cs : List Value} (h : k46.M w base ok x cs) : cs = [.int .i64 x.f0, .int .i64 x.f1, .int .i64 x.f2.f0, .int .i64 x.f2.f1, .int .i64 x.f2.f2, .int .i64 x.f2.f3, .int .i64 x.f2.f4.f0, .int .i64 x.f2.f4.f1, .int .i64 x.f2.f4.f2, .int .i64 x.f2.f4.f3, .int .i64 x.f2.f5, .int .i64 x.f2.f6] := by
  obtain ⟨_, _, rfl, rfl, ⟨_, _, rfl, rfl, s2⟩⟩ := h
  obtain rfl := k44_openM s2
  exact rfl
theorem k46_mk (w : World) (x : S46)  : k46.K w x [.int .i64 x.f0, .int .i64 x.f1, .int .i64 x.f2.f0, .int .i64 x.f2.f1, .int .i64 x.f2.f2, .int .i64 x.f2.f3, .int .i64 x.f2.f4.f0, .int .i64 x.f2.f4.f1, .int .i64 x.f2.f4.f2, .int .i64 x.f2.f4.f3, .int .i64 x.f2.f5, .int .i64 x.f2.f6] := ⟨[.int .i64 x.f0], [.int .i64 x.f1, .int .i64 x.f2.f0, .int .i64 x.f2.f1, .int .i64 x.f2.f2, .int .i64 x.f2.f3, .int .i64 x.f2.f4.f0, .int .i64 x.f2.f4.f1, .int .i64 x.f2.f4.f2, .int .i64 x.f2.f4.f3, .int .i64 x.f2.f5, .int .i64 x.f2.f6], rfl, rfl, ⟨[.int .i64 x.f1], [.int .i64 x.f2.f0, .int .i64 x.f2.f1, .int .i64 x.f2.f2, .int .i64 x.f2.f3, .int .i64 x.f2.f4.f0, .int .i64 x.f2.f4.f1, .int .i64 x.f2.f4.f2, .int .i64 x.f2.f4.f3, .int .i64 x.f2.f5, .int .i64 x.f2.f6], rfl, rfl, (k44_mk w x.f2 )⟩⟩
theorem k46_mkM (w : World) (base : Nat) (ok : Nat → Prop) (x : S46)  : k46.M w base ok x [.int .i64 x.f0, .int .i64 x.f1, .int .i64 x.f2.f0, .int .i64 x.f2.f1, .int .i64 x.f2.f2, .int .i64 x.f2.f3, .int .i64 x.f2.f4.f0, .int .i64 x.f2.f4.f1, .int .i64 x.f2.f4.f2, .int .i64 x.f2.f4.f3, .int .i64 x.f2.f5, .int .i64 x.f2.f6] := ⟨[.int .i64 x.f0], [.int .i64 x.f1, .int .i64 x.f2.f0, .int .i64 x.f2.f1, .int .i64 x.f2.f2, .int .i64 x.f2.f3, .int .i64 x.f2.f4.f0, .int .i64 x.f2.f4.f1, .int .i64 x.f2.f4.f2, .int .i64 x.f2.f4.f3, .int .i64 x.f2.f5, .int .i64 x.f2.f6], rfl, rfl, ⟨[.int .i64 x.f1], [.int .i64 x.f2.f0, .int .i64 x.f2.f1, .int .i64 x.f2.f2, .int .i64 x.f2.f3, .int .i64 x.f2.f4.f0, .int .i64 x.f2.f4.f1, .int .i64 x.f2.f4.f2, .int .i64 x.f2.f4.f3, .int .i64 x.f2.f5, .int .i64 x.f2.f6], rfl, rfl, (k44_mkM w base ok x.f2 )⟩⟩
def rd_T46 (xs : List S46) (i : Int) : S46 := xs.getD i.toNat z46
theorem at_T46 {w : World} {A : Option Addr} {n : Nat} {xs : List S46} (h : Kd.C k46 w A n xs) (i : Int) (h0 : 0 ≤ i) (h1 : i < n) : ∃ ad , A = some ad ∧ w.cell? (ad.add (i.toNat * 12)) = some (.int .i64 (rd_T46 xs i).f0) ∧ w.cell? ⟨(ad.add (i.toNat * 12)).block, (ad.add (i.toNat * 12)).off + 1, none⟩ = some (.int .i64 (rd_T46 xs i).f1) ∧ w.cell? ⟨(ad.add (i.toNat * 12)).block, (ad.add (i.toNat * 12)).off + 2, none⟩ = some (.int .i64 (rd_T46 xs i).f2.f0) ∧ w.cell? ⟨(ad.add (i.toNat * 12)).block, (ad.add (i.toNat * 12)).off + 3, none⟩ = some (.int .i64 (rd_T46 xs i).f2.f1) ∧ w.cell? ⟨(ad.add (i.toNat * 12)).block, (ad.add (i.toNat * 12)).off + 4, none⟩ = some (.int .i64 (rd_T46 xs i).f2.f2) ∧ w.cell? ⟨(ad.add (i.toNat * 12)).block, (ad.add (i.toNat * 12)).off + 5, none⟩ = some (.int .i64 (rd_T46 xs i).f2.f3) ∧ w.cell? ⟨(ad.add (i.toNat * 12)).block, (ad.add (i.toNat * 12)).off + 6, none⟩ = some (.int .i64 (rd_T46 xs i).f2.f4.f0) ∧ w.cell? ⟨(ad.add (i.toNat * 12)).block, (ad.add (i.toNat * 12)).off + 7, none⟩ = some (.int .i64 (rd_T46 xs i).f2.f4.f1) ∧ w.cell? ⟨(ad.add (i.toNat * 12)).block, (ad.add (i.toNat * 12)).off + 8, none⟩ = some (.int .i64 (rd_T46 xs i).f2.f4.f2) ∧ w.cell? ⟨(ad.add (i.toNat * 12)).block, (ad.add (i.toNat * 12)).off + 9, none⟩ = some (.int .i64 (rd_T46 xs i).f2.f4.f3) ∧ w.cell? ⟨(ad.add (i.toNat * 12)).block, (ad.add (i.toNat * 12)).off + 10, none⟩ = some (.int .i64 (rd_T46 xs i).f2.f5) ∧ w.cell? ⟨(ad.add (i.toNat * 12)).block, (ad.add (i.toNat * 12)).off + 11, none⟩ = some (.int .i64 (rd_T46 xs i).f2.f6) := by
  obtain ⟨ad, c, e, _, hK, hc0⟩ := Kd.C_get h z46 i h0 h1
  have hc : ∀ j u, c[j]? = some u → w.cell? (ad.add (i.toNat * 12 + j)) = some u := hc0
  obtain rfl := k46_open hK
  exact ⟨ad, e, hc 0 _ rfl, by rw [← add_field _ _ 1 (by omega)]; exact hc 1 _ rfl, by rw [← add_field _ _ 2 (by omega)]; exact hc 2 _ rfl, by rw [← add_field _ _ 3 (by omega)]; exact hc 3 _ rfl, by rw [← add_field _ _ 4 (by omega)]; exact hc 4 _ rfl, by rw [← add_field _ _ 5 (by omega)]; exact hc 5 _ rfl, by rw [← add_field _ _ 6 (by omega)]; exact hc 6 _ rfl, by rw [← add_field _ _ 7 (by omega)]; exact hc 7 _ rfl, by rw [← add_field _ _ 8 (by omega)]; exact hc 8 _ rfl, by rw [← add_field _ _ 9 (by omega)]; exact hc 9 _ rfl, by rw [← add_field _ _ 10 (by omega)]; exact hc 10 _ rfl, by rw [← add_field _ _ 11 (by omega)]; exact hc 11 _ rfl⟩
structure S28 where
  f0 : Int
  f1 : Int
  f2 : Int
  f3 : Int
  f4 : (List S46)
def z28 : S28 := ⟨(0 : Int), (0 : Int), (0 : Int), (0 : Int), ([] : List S46)⟩
end Go.Proofs.Ytgipepjpkmlmaaa.P
namespace Go.Proofs.Ytgipepjpkmlmaaa.P
open Go.RowKit Go.Proofs.YtgipepjpkmlmaaaW.PrintWords Go.Proofs.YtgipepjpkmlmaaaW.PrintLast Go.Proofs.YtgipepjpkmlmaaaW.PrintMore
attribute [local go_sem] max2_int min2_int max_two min_two max_three min_three max_four min_four   -- for this text's walks alone
set_option linter.unusedVariables false
set_option linter.unusedSimpArgs false
def grid_Check.f (a0_0 : Int) (a0_1 : Int) (a0_2 : Int) : Option (Int) := if a0_0 < 1 then (some 1) else (if a0_0 > 1048576 then (some 1) else (if a0_1 < 1 then (some 1) else (if a0_1 > a0_0 then (some 1) else (if a0_1 = 0 then (none) else (if (Int.tmod a0_0 a0_1) = 0 then (if (wrap64 (Int.tdiv a0_0 a0_1)) > 8 then (some 1) else (if a0_2 < 0 then (some 1) else (if a0_2 > 1048576 then (some 1) else (some 0)))) else (some 1))))))
set_option maxHeartbeats 8000000 in
set_option maxRecDepth 100000 in
theorem grid_Check.calls (a0_0 : Int) (a0_1 : Int) (a0_2 : Int) (r : Int) (w : World) (h : grid_Check.f a0_0 a0_1 a0_2 = some r) :
    Calls Try.prog 44 #[.agg #[.int .i64 a0_0, .int .i64 a0_1, .int .i64 a0_2]] w fun e w' => e = .returned (.int .i64 r) ∧ Below w.heap.size w w' := by
  have hu23 := Try.underlying23
  have HB := Aside0.mk (Below.refl w.heap.size w)
  have H : (if a0_0 < 1 then (some 1) else (if a0_0 > 1048576 then (some 1) else (if a0_1 < 1 then (some 1) else (if a0_1 > a0_0 then (some 1) else (if a0_1 = 0 then (none) else (if (Int.tmod a0_0 a0_1) = 0 then (if (wrap64 (Int.tdiv a0_0 a0_1)) > 8 then (some 1) else (if a0_2 < 0 then (some 1) else (if a0_2 > 1048576 then (some 1) else (some 0)))) else (some 1))))))) = some r := h
  clear h
  by_cases c2 : a0_0 < 1
  · rw [if_pos c2] at H
    have c2b0 : decide (a0_0 < 1) = true := decide_eq_true c2
    clear c2
    obtain rfl := Option.some.inj H
    go_enter Try.func44, Try.ntmps44
    go_wp2_with (first | ((with_reducible refine gate_dst (N := 1) rfl ?_); refine box_event ?hg (N := 1) ?hd (cs := #[.int .i64 a0_0, .int .i64 a0_1, .int .i64 a0_2]) (t := 23) ?hr ?_; (case hd => rfl); (case hg => rfl); (case hr => first | (go_simp; done) | (go_simp; rfl)); intro gb114 hg w3 hbox hb; have n0_ := Aside0.mk (below_step (by repeat (first | (with_reducible first | exact HB.out | apply below_alloc | apply pw_below_drewN | apply below_drew1) | exact HB.out)) hb); have n1_ := Aside0.mk (hbox); have n2_ := Aside0.mk ((by rw [hg]; exact (below_size (by repeat (first | (with_reducible first | exact HB.out | apply below_alloc | apply pw_below_drewN | apply below_drew1) | exact HB.out))) : w.heap.size ≤ gb114)); have n3_ := Aside0.mk ((by rw [hg]; exact (below_size (by repeat (first | (with_reducible first | exact HB.out | apply below_alloc | apply pw_below_drewN | apply below_drew1) | exact HB.out))) : w.heap.size ≤ gb114)); clear HB; have HB := n0_; have BK114 := n1_; have GW114 := n2_; have GE114 := n3_; clear n0_ n1_ n2_ n3_; clear hb hbox hg; have hcz4_0 : w3.cell? ⟨gb114, 0, none⟩ = some (.int .i64 a0_0) := (blk_cell BK114.out 0).trans rfl; have hcz4_1 : w3.cell? ⟨gb114, 1, none⟩ = some (.int .i64 a0_1) := (blk_cell BK114.out 1).trans rfl; have hcz4_2 : w3.cell? ⟨gb114, 2, none⟩ = some (.int .i64 a0_2) := (blk_cell BK114.out 2).trans rfl; have hfz4_0 := blk_frozen BK114.out 0; have hfz4_1 := blk_frozen BK114.out 1; have hfz4_2 := blk_frozen BK114.out 2))
    go_ret
    exact ⟨by first | rfl | (simp [errW_none, errW_some] <;> rfl) | (simp [*, errW_none, errW_some] <;> rfl), by repeat (first | (with_reducible first | exact HB.out | apply below_alloc | apply pw_below_drewN | apply below_drew1 | refine below_set ?_ GE114.out) | exact HB.out)⟩
  · rw [if_neg c2] at H
    have c2b0 : decide (a0_0 < 1) = false := decide_eq_false c2
    clear c2
    by_cases c5 : a0_0 > 1048576
    · rw [if_pos c5] at H
      have c5b0 : decide (1048576 < a0_0) = true := decide_eq_true c5
      clear c5
      obtain rfl := Option.some.inj H
      go_enter Try.func44, Try.ntmps44
      go_wp2_with (first | ((with_reducible refine gate_dst (N := 1) rfl ?_); refine box_event ?hg (N := 1) ?hd (cs := #[.int .i64 a0_0, .int .i64 a0_1, .int .i64 a0_2]) (t := 23) ?hr ?_; (case hd => rfl); (case hg => rfl); (case hr => first | (go_simp; done) | (go_simp; rfl)); intro gb114 hg w6 hbox hb; have n0_ := Aside0.mk (below_step (by repeat (first | (with_reducible first | exact HB.out | apply below_alloc | apply pw_below_drewN | apply below_drew1) | exact HB.out)) hb); have n1_ := Aside0.mk (hbox); have n2_ := Aside0.mk ((by rw [hg]; exact (below_size (by repeat (first | (with_reducible first | exact HB.out | apply below_alloc | apply pw_below_drewN | apply below_drew1) | exact HB.out))) : w.heap.size ≤ gb114)); have n3_ := Aside0.mk ((by rw [hg]; exact (below_size (by repeat (first | (with_reducible first | exact HB.out | apply below_alloc | apply pw_below_drewN | apply below_drew1) | exact HB.out))) : w.heap.size ≤ gb114)); clear HB; have HB := n0_; have BK114 := n1_; have GW114 := n2_; have GE114 := n3_; clear n0_ n1_ n2_ n3_; clear hb hbox hg; have hcz7_0 : w6.cell? ⟨gb114, 0, none⟩ = some (.int .i64 a0_0) := (blk_cell BK114.out 0).trans rfl; have hcz7_1 : w6.cell? ⟨gb114, 1, none⟩ = some (.int .i64 a0_1) := (blk_cell BK114.out 1).trans rfl; have hcz7_2 : w6.cell? ⟨gb114, 2, none⟩ = some (.int .i64 a0_2) := (blk_cell BK114.out 2).trans rfl; have hfz7_0 := blk_frozen BK114.out 0; have hfz7_1 := blk_frozen BK114.out 1; have hfz7_2 := blk_frozen BK114.out 2))
      go_ret
      exact ⟨by first | rfl | (simp [errW_none, errW_some] <;> rfl) | (simp [*, errW_none, errW_some] <;> rfl), by repeat (first | (with_reducible first | exact HB.out | apply below_alloc | apply pw_below_drewN | apply below_drew1 | refine below_set ?_ GE114.out) | exact HB.out)⟩
    · rw [if_neg c5] at H
      have c5b0 : decide (1048576 < a0_0) = false := decide_eq_false c5
      clear c5
      by_cases c8 : a0_1 < 1
      · rw [if_pos c8] at H
        have c8b0 : decide (a0_1 < 1) = true := decide_eq_true c8
        clear c8
        obtain rfl := Option.some.inj H
        go_enter Try.func44, Try.ntmps44
        go_wp2_with (first | ((with_reducible refine gate_dst (N := 1) rfl ?_); refine box_event ?hg (N := 1) ?hd (cs := #[.int .i64 a0_0, .int .i64 a0_1, .int .i64 a0_2]) (t := 23) ?hr ?_; (case hd => rfl); (case hg => rfl); (case hr => first | (go_simp; done) | (go_simp; rfl)); intro gb114 hg w9 hbox hb; have n0_ := Aside0.mk (below_step (by repeat (first | (with_reducible first | exact HB.out | apply below_alloc | apply pw_below_drewN | apply below_drew1) | exact HB.out)) hb); have n1_ := Aside0.mk (hbox); have n2_ := Aside0.mk ((by rw [hg]; exact (below_size (by repeat (first | (with_reducible first | exact HB.out | apply below_alloc | apply pw_below_drewN | apply below_drew1) | exact HB.out))) : w.heap.size ≤ gb114)); have n3_ := Aside0.mk ((by rw [hg]; exact (below_size (by repeat (first | (with_reducible first | exact HB.out | apply below_alloc | apply pw_below_drewN | apply below_drew1) | exact HB.out))) : w.heap.size ≤ gb114)); clear HB; have HB := n0_; have BK114 := n1_; have GW114 := n2_; have GE114 := n3_; clear n0_ n1_ n2_ n3_; clear hb hbox hg; have hcz10_0 : w9.cell? ⟨gb114, 0, none⟩ = some (.int .i64 a0_0) := (blk_cell BK114.out 0).trans rfl; have hcz10_1 : w9.cell? ⟨gb114, 1, none⟩ = some (.int .i64 a0_1) := (blk_cell BK114.out 1).trans rfl; have hcz10_2 : w9.cell? ⟨gb114, 2, none⟩ = some (.int .i64 a0_2) := (blk_cell BK114.out 2).trans rfl; have hfz10_0 := blk_frozen BK114.out 0; have hfz10_1 := blk_frozen BK114.out 1; have hfz10_2 := blk_frozen BK114.out 2))
        go_ret
        exact ⟨by first | rfl | (simp [errW_none, errW_some] <;> rfl) | (simp [*, errW_none, errW_some] <;> rfl), by repeat (first | (with_reducible first | exact HB.out | apply below_alloc | apply pw_below_drewN | apply below_drew1 | refine below_set ?_ GE114.out) | exact HB.out)⟩
      · rw [if_neg c8] at H
        have c8b0 : decide (a0_1 < 1) = false := decide_eq_false c8
        clear c8
        by_cases c11 : a0_1 > a0_0
        · rw [if_pos c11] at H
          have c11b0 : decide (a0_0 < a0_1) = true := decide_eq_true c11
          clear c11
          obtain rfl := Option.some.inj H
          go_enter Try.func44, Try.ntmps44
          go_wp2_with (first | ((with_reducible refine gate_dst (N := 1) rfl ?_); refine box_event ?hg (N := 1) ?hd (cs := #[.int .i64 a0_0, .int .i64 a0_1, .int .i64 a0_2]) (t := 23) ?hr ?_; (case hd => rfl); (case hg => rfl); (case hr => first | (go_simp; done) | (go_simp; rfl)); intro gb114 hg w12 hbox hb; have n0_ := Aside0.mk (below_step (by repeat (first | (with_reducible first | exact HB.out | apply below_alloc | apply pw_below_drewN | apply below_drew1) | exact HB.out)) hb); have n1_ := Aside0.mk (hbox); have n2_ := Aside0.mk ((by rw [hg]; exact (below_size (by repeat (first | (with_reducible first | exact HB.out | apply below_alloc | apply pw_below_drewN | apply below_drew1) | exact HB.out))) : w.heap.size ≤ gb114)); have n3_ := Aside0.mk ((by rw [hg]; exact (below_size (by repeat (first | (with_reducible first | exact HB.out | apply below_alloc | apply pw_below_drewN | apply below_drew1) | exact HB.out))) : w.heap.size ≤ gb114)); clear HB; have HB := n0_; have BK114 := n1_; have GW114 := n2_; have GE114 := n3_; clear n0_ n1_ n2_ n3_; clear hb hbox hg; have hcz13_0 : w12.cell? ⟨gb114, 0, none⟩ = some (.int .i64 a0_0) := (blk_cell BK114.out 0).trans rfl; have hcz13_1 : w12.cell? ⟨gb114, 1, none⟩ = some (.int .i64 a0_1) := (blk_cell BK114.out 1).trans rfl; have hcz13_2 : w12.cell? ⟨gb114, 2, none⟩ = some (.int .i64 a0_2) := (blk_cell BK114.out 2).trans rfl; have hfz13_0 := blk_frozen BK114.out 0; have hfz13_1 := blk_frozen BK114.out 1; have hfz13_2 := blk_frozen BK114.out 2))
          go_ret
          exact ⟨by first | rfl | (simp [errW_none, errW_some] <;> rfl) | (simp [*, errW_none, errW_some] <;> rfl), by repeat (first | (with_reducible first | exact HB.out | apply below_alloc | apply pw_below_drewN | apply below_drew1 | refine below_set ?_ GE114.out) | exact HB.out)⟩
        · rw [if_neg c11] at H
          have c11b0 : decide (a0_0 < a0_1) = false := decide_eq_false c11
          clear c11
          by_cases c14 : a0_1 = 0
          · rw [if_pos c14] at H
            exact absurd H (by simp)
          · rw [if_neg c14] at H
            have c14b0 : (a0_1 == 0) = false := beq_eq_false_iff_ne.mpr c14
            have c14b1 : (a0_1 != 0) = true := bne_iff_ne.mpr c14
            by_cases c15 : (Int.tmod a0_0 a0_1) = 0
            · rw [if_pos c15] at H
              have c15b0 : ((Int.tmod a0_0 a0_1) == 0) = true := beq_iff_eq.mpr c15
              have c15b1 : ((Int.tmod a0_0 a0_1) != 0) = false := bne_eq_false_iff_eq.mpr c15
              clear c15
              by_cases c16 : (wrap64 (Int.tdiv a0_0 a0_1)) > 8
              · rw [if_pos c16] at H
                have c16b0 : decide (8 < (wrap64 (Int.tdiv a0_0 a0_1))) = true := decide_eq_true c16
                clear c16
                obtain rfl := Option.some.inj H
                go_enter Try.func44, Try.ntmps44
                go_wp2_with (first | ((with_reducible refine gate_dst (N := 1) rfl ?_); refine box_event ?hg (N := 1) ?hd (cs := #[.int .i64 a0_0, .int .i64 a0_1, .int .i64 a0_2]) (t := 23) ?hr ?_; (case hd => rfl); (case hg => rfl); (case hr => first | (go_simp; done) | (go_simp; rfl)); intro gb114 hg w17 hbox hb; have n0_ := Aside0.mk (below_step (by repeat (first | (with_reducible first | exact HB.out | apply below_alloc | apply pw_below_drewN | apply below_drew1) | exact HB.out)) hb); have n1_ := Aside0.mk (hbox); have n2_ := Aside0.mk ((by rw [hg]; exact (below_size (by repeat (first | (with_reducible first | exact HB.out | apply below_alloc | apply pw_below_drewN | apply below_drew1) | exact HB.out))) : w.heap.size ≤ gb114)); have n3_ := Aside0.mk ((by rw [hg]; exact (below_size (by repeat (first | (with_reducible first | exact HB.out | apply below_alloc | apply pw_below_drewN | apply below_drew1) | exact HB.out))) : w.heap.size ≤ gb114)); clear HB; have HB := n0_; have BK114 := n1_; have GW114 := n2_; have GE114 := n3_; clear n0_ n1_ n2_ n3_; clear hb hbox hg; have hcz18_0 : w17.cell? ⟨gb114, 0, none⟩ = some (.int .i64 a0_0) := (blk_cell BK114.out 0).trans rfl; have hcz18_1 : w17.cell? ⟨gb114, 1, none⟩ = some (.int .i64 a0_1) := (blk_cell BK114.out 1).trans rfl; have hcz18_2 : w17.cell? ⟨gb114, 2, none⟩ = some (.int .i64 a0_2) := (blk_cell BK114.out 2).trans rfl; have hfz18_0 := blk_frozen BK114.out 0; have hfz18_1 := blk_frozen BK114.out 1; have hfz18_2 := blk_frozen BK114.out 2))
                go_ret
                exact ⟨by first | rfl | (simp [errW_none, errW_some] <;> rfl) | (simp [*, errW_none, errW_some] <;> rfl), by repeat (first | (with_reducible first | exact HB.out | apply below_alloc | apply pw_below_drewN | apply below_drew1 | refine below_set ?_ GE114.out) | exact HB.out)⟩
              · rw [if_neg c16] at H
                have c16b0 : decide (8 < (wrap64 (Int.tdiv a0_0 a0_1))) = false := decide_eq_false c16
                clear c16
                by_cases c19 : a0_2 < 0
                · rw [if_pos c19] at H
                  have c19b0 : decide (a0_2 < 0) = true := decide_eq_true c19
                  clear c19
                  obtain rfl := Option.some.inj H
                  go_enter Try.func44, Try.ntmps44
                  go_wp2_with (first | ((with_reducible refine gate_dst (N := 1) rfl ?_); refine box_event ?hg (N := 1) ?hd (cs := #[.int .i64 a0_0, .int .i64 a0_1, .int .i64 a0_2]) (t := 23) ?hr ?_; (case hd => rfl); (case hg => rfl); (case hr => first | (go_simp; done) | (go_simp; rfl)); intro gb114 hg w20 hbox hb; have n0_ := Aside0.mk (below_step (by repeat (first | (with_reducible first | exact HB.out | apply below_alloc | apply pw_below_drewN | apply below_drew1) | exact HB.out)) hb); have n1_ := Aside0.mk (hbox); have n2_ := Aside0.mk ((by rw [hg]; exact (below_size (by repeat (first | (with_reducible first | exact HB.out | apply below_alloc | apply pw_below_drewN | apply below_drew1) | exact HB.out))) : w.heap.size ≤ gb114)); have n3_ := Aside0.mk ((by rw [hg]; exact (below_size (by repeat (first | (with_reducible first | exact HB.out | apply below_alloc | apply pw_below_drewN | apply below_drew1) | exact HB.out))) : w.heap.size ≤ gb114)); clear HB; have HB := n0_; have BK114 := n1_; have GW114 := n2_; have GE114 := n3_; clear n0_ n1_ n2_ n3_; clear hb hbox hg; have hcz21_0 : w20.cell? ⟨gb114, 0, none⟩ = some (.int .i64 a0_0) := (blk_cell BK114.out 0).trans rfl; have hcz21_1 : w20.cell? ⟨gb114, 1, none⟩ = some (.int .i64 a0_1) := (blk_cell BK114.out 1).trans rfl; have hcz21_2 : w20.cell? ⟨gb114, 2, none⟩ = some (.int .i64 a0_2) := (blk_cell BK114.out 2).trans rfl; have hfz21_0 := blk_frozen BK114.out 0; have hfz21_1 := blk_frozen BK114.out 1; have hfz21_2 := blk_frozen BK114.out 2))
                  go_ret
                  exact ⟨by first | rfl | (simp [errW_none, errW_some] <;> rfl) | (simp [*, errW_none, errW_some] <;> rfl), by repeat (first | (with_reducible first | exact HB.out | apply below_alloc | apply pw_below_drewN | apply below_drew1 | refine below_set ?_ GE114.out) | exact HB.out)⟩
                · rw [if_neg c19] at H
                  have c19b0 : decide (a0_2 < 0) = false := decide_eq_false c19
                  clear c19
                  by_cases c22 : a0_2 > 1048576
                  · rw [if_pos c22] at H
                    have c22b0 : decide (1048576 < a0_2) = true := decide_eq_true c22
                    clear c22
                    obtain rfl := Option.some.inj H
                    go_enter Try.func44, Try.ntmps44
                    go_wp2_with (first | ((with_reducible refine gate_dst (N := 1) rfl ?_); refine box_event ?hg (N := 1) ?hd (cs := #[.int .i64 a0_0, .int .i64 a0_1, .int .i64 a0_2]) (t := 23) ?hr ?_; (case hd => rfl); (case hg => rfl); (case hr => first | (go_simp; done) | (go_simp; rfl)); intro gb114 hg w23 hbox hb; have n0_ := Aside0.mk (below_step (by repeat (first | (with_reducible first | exact HB.out | apply below_alloc | apply pw_below_drewN | apply below_drew1) | exact HB.out)) hb); have n1_ := Aside0.mk (hbox); have n2_ := Aside0.mk ((by rw [hg]; exact (below_size (by repeat (first | (with_reducible first | exact HB.out | apply below_alloc | apply pw_below_drewN | apply below_drew1) | exact HB.out))) : w.heap.size ≤ gb114)); have n3_ := Aside0.mk ((by rw [hg]; exact (below_size (by repeat (first | (with_reducible first | exact HB.out | apply below_alloc | apply pw_below_drewN | apply below_drew1) | exact HB.out))) : w.heap.size ≤ gb114)); clear HB; have HB := n0_; have BK114 := n1_; have GW114 := n2_; have GE114 := n3_; clear n0_ n1_ n2_ n3_; clear hb hbox hg; have hcz24_0 : w23.cell? ⟨gb114, 0, none⟩ = some (.int .i64 a0_0) := (blk_cell BK114.out 0).trans rfl; have hcz24_1 : w23.cell? ⟨gb114, 1, none⟩ = some (.int .i64 a0_1) := (blk_cell BK114.out 1).trans rfl; have hcz24_2 : w23.cell? ⟨gb114, 2, none⟩ = some (.int .i64 a0_2) := (blk_cell BK114.out 2).trans rfl; have hfz24_0 := blk_frozen BK114.out 0; have hfz24_1 := blk_frozen BK114.out 1; have hfz24_2 := blk_frozen BK114.out 2))
                    go_ret
                    exact ⟨by first | rfl | (simp [errW_none, errW_some] <;> rfl) | (simp [*, errW_none, errW_some] <;> rfl), by repeat (first | (with_reducible first | exact HB.out | apply below_alloc | apply pw_below_drewN | apply below_drew1 | refine below_set ?_ GE114.out) | exact HB.out)⟩
                  · rw [if_neg c22] at H
                    have c22b0 : decide (1048576 < a0_2) = false := decide_eq_false c22
                    clear c22
                    obtain rfl := Option.some.inj H
                    go_enter Try.func44, Try.ntmps44
                    go_wp2_with (first | ((with_reducible refine gate_dst (N := 1) rfl ?_); refine box_event ?hg (N := 1) ?hd (cs := #[.int .i64 a0_0, .int .i64 a0_1, .int .i64 a0_2]) (t := 23) ?hr ?_; (case hd => rfl); (case hg => rfl); (case hr => first | (go_simp; done) | (go_simp; rfl)); intro gb114 hg w25 hbox hb; have n0_ := Aside0.mk (below_step (by repeat (first | (with_reducible first | exact HB.out | apply below_alloc | apply pw_below_drewN | apply below_drew1) | exact HB.out)) hb); have n1_ := Aside0.mk (hbox); have n2_ := Aside0.mk ((by rw [hg]; exact (below_size (by repeat (first | (with_reducible first | exact HB.out | apply below_alloc | apply pw_below_drewN | apply below_drew1) | exact HB.out))) : w.heap.size ≤ gb114)); have n3_ := Aside0.mk ((by rw [hg]; exact (below_size (by repeat (first | (with_reducible first | exact HB.out | apply below_alloc | apply pw_below_drewN | apply below_drew1) | exact HB.out))) : w.heap.size ≤ gb114)); clear HB; have HB := n0_; have BK114 := n1_; have GW114 := n2_; have GE114 := n3_; clear n0_ n1_ n2_ n3_; clear hb hbox hg; have hcz26_0 : w25.cell? ⟨gb114, 0, none⟩ = some (.int .i64 a0_0) := (blk_cell BK114.out 0).trans rfl; have hcz26_1 : w25.cell? ⟨gb114, 1, none⟩ = some (.int .i64 a0_1) := (blk_cell BK114.out 1).trans rfl; have hcz26_2 : w25.cell? ⟨gb114, 2, none⟩ = some (.int .i64 a0_2) := (blk_cell BK114.out 2).trans rfl; have hfz26_0 := blk_frozen BK114.out 0; have hfz26_1 := blk_frozen BK114.out 1; have hfz26_2 := blk_frozen BK114.out 2))
                    go_ret
                    exact ⟨by first | rfl | (simp [errW_none, errW_some] <;> rfl) | (simp [*, errW_none, errW_some] <;> rfl), by repeat (first | (with_reducible first | exact HB.out | apply below_alloc | apply pw_below_drewN | apply below_drew1 | refine below_set ?_ GE114.out) | exact HB.out)⟩
            · rw [if_neg c15] at H
              have c15b0 : ((Int.tmod a0_0 a0_1) == 0) = false := beq_eq_false_iff_ne.mpr c15
              have c15b1 : ((Int.tmod a0_0 a0_1) != 0) = true := bne_iff_ne.mpr c15
              obtain rfl := Option.some.inj H
              go_enter Try.func44, Try.ntmps44
              go_wp2_with (first | ((with_reducible refine gate_dst (N := 1) rfl ?_); refine box_event ?hg (N := 1) ?hd (cs := #[.int .i64 a0_0, .int .i64 a0_1, .int .i64 a0_2]) (t := 23) ?hr ?_; (case hd => rfl); (case hg => rfl); (case hr => first | (go_simp; done) | (go_simp; rfl)); intro gb114 hg w27 hbox hb; have n0_ := Aside0.mk (below_step (by repeat (first | (with_reducible first | exact HB.out | apply below_alloc | apply pw_below_drewN | apply below_drew1) | exact HB.out)) hb); have n1_ := Aside0.mk (hbox); have n2_ := Aside0.mk ((by rw [hg]; exact (below_size (by repeat (first | (with_reducible first | exact HB.out | apply below_alloc | apply pw_below_drewN | apply below_drew1) | exact HB.out))) : w.heap.size ≤ gb114)); have n3_ := Aside0.mk ((by rw [hg]; exact (below_size (by repeat (first | (with_reducible first | exact HB.out | apply below_alloc | apply pw_below_drewN | apply below_drew1) | exact HB.out))) : w.heap.size ≤ gb114)); clear HB; have HB := n0_; have BK114 := n1_; have GW114 := n2_; have GE114 := n3_; clear n0_ n1_ n2_ n3_; clear hb hbox hg; have hcz28_0 : w27.cell? ⟨gb114, 0, none⟩ = some (.int .i64 a0_0) := (blk_cell BK114.out 0).trans rfl; have hcz28_1 : w27.cell? ⟨gb114, 1, none⟩ = some (.int .i64 a0_1) := (blk_cell BK114.out 1).trans rfl; have hcz28_2 : w27.cell? ⟨gb114, 2, none⟩ = some (.int .i64 a0_2) := (blk_cell BK114.out 2).trans rfl; have hfz28_0 := blk_frozen BK114.out 0; have hfz28_1 := blk_frozen BK114.out 1; have hfz28_2 := blk_frozen BK114.out 2))
              go_ret
              exact ⟨by first | rfl | (simp [errW_none, errW_some] <;> rfl) | (simp [*, errW_none, errW_some] <;> rfl), by repeat (first | (with_reducible first | exact HB.out | apply below_alloc | apply pw_below_drewN | apply below_drew1 | refine below_set ?_ GE114.out) | exact HB.out)⟩
end Go.Proofs.Ytgipepjpkmlmaaa.P
namespace Go.Proofs.Ytgipepjpkmlmaaa.P
open Go.RowKit Go.Proofs.YtgipepjpkmlmaaaW.PrintWords Go.Proofs.YtgipepjpkmlmaaaW.PrintLast Go.Proofs.YtgipepjpkmlmaaaW.PrintMore
attribute [local go_sem] max2_int min2_int max_two min_two max_three min_three max_four min_four   -- for this text's walks alone
set_option linter.unusedVariables false
set_option linter.unusedSimpArgs false
def grid_Closed.f (a0_0 : Int) (a0_1 : Int) (a0_2 : Int) (a1 : Int) (a2 : Int) : Option (Bool) := (grid_Check.f a0_0 a0_1 a0_2).bind fun t116 => (if t116 = 0 then (if a2 ≥ 0 then (some (decide (a1 ≤ (wrap64 ((wrap64 (a2 - a0_0)) - a0_2))))) else (some false)) else (some false))
set_option maxHeartbeats 8000000 in
set_option maxRecDepth 100000 in
theorem grid_Closed.calls (a0_0 : Int) (a0_1 : Int) (a0_2 : Int) (a1 : Int) (a2 : Int) (r : Bool) (w : World) (h : grid_Closed.f a0_0 a0_1 a0_2 a1 a2 = some r) :
    Calls Try.prog 46 #[.agg #[.int .i64 a0_0, .int .i64 a0_1, .int .i64 a0_2], .int .i64 a1, .int .i64 a2] w fun e w' => e = .returned (.bool r) ∧ Below w.heap.size w w' := by
  have hu23 := Try.underlying23
  have HB := Aside0.mk (Below.refl w.heap.size w)
  have H : ((grid_Check.f a0_0 a0_1 a0_2).bind fun t116 => (if t116 = 0 then (if a2 ≥ 0 then (some (decide (a1 ≤ (wrap64 ((wrap64 (a2 - a0_0)) - a0_2))))) else (some false)) else (some false))) = some r := h
  clear h
  replace H := Option.bind_eq_some_iff.mp H
  obtain ⟨t116, A40, H⟩ := H
  replace H : (if t116 = 0 then (if a2 ≥ 0 then (some (decide (a1 ≤ (wrap64 ((wrap64 (a2 - a0_0)) - a0_2))))) else (some false)) else (some false)) = some r := H
  have A4 := Aside0.mk A40
  clear A40
  by_cases c5 : t116 = 0
  · rw [if_pos c5] at H
    have c5b0 : (t116 == 0) = true := beq_iff_eq.mpr c5
    have c5b1 : (t116 != 0) = false := bne_eq_false_iff_eq.mpr c5
    clear c5
    by_cases c6 : a2 ≥ 0
    · rw [if_pos c6] at H
      have c6b0 : decide (0 ≤ a2) = true := decide_eq_true c6
      clear c6
      obtain rfl := Option.some.inj H
      go_enter Try.func46, Try.ntmps46
      go_wp2_with (first | ((with_reducible refine gate_dst (N := 3) rfl ?_); refine box_event ?hg (N := 3) ?hd (cs := #[.int .i64 a0_0, .int .i64 a0_1, .int .i64 a0_2]) (t := 23) ?hr ?_; (case hd => rfl); (case hg => rfl); (case hr => first | (go_simp; done) | (go_simp; rfl)); intro gb115 hg w7 hbox hb; have n0_ := Aside0.mk (below_step (by repeat (first | (with_reducible first | exact HB.out | apply below_alloc | apply pw_below_drewN | apply below_drew1) | exact HB.out)) hb); have n1_ := Aside0.mk (hbox); have n2_ := Aside0.mk ((by rw [hg]; exact (below_size (by repeat (first | (with_reducible first | exact HB.out | apply below_alloc | apply pw_below_drewN | apply below_drew1) | exact HB.out))) : w.heap.size ≤ gb115)); have n3_ := Aside0.mk ((by rw [hg]; exact (below_size (by repeat (first | (with_reducible first | exact HB.out | apply below_alloc | apply pw_below_drewN | apply below_drew1) | exact HB.out))) : w.heap.size ≤ gb115)); clear HB; have HB := n0_; have BK115 := n1_; have GW115 := n2_; have GE115 := n3_; clear n0_ n1_ n2_ n3_; clear hb hbox hg; have hcz8_0 : w7.cell? ⟨gb115, 0, none⟩ = some (.int .i64 a0_0) := (blk_cell BK115.out 0).trans rfl; have hcz8_1 : w7.cell? ⟨gb115, 1, none⟩ = some (.int .i64 a0_1) := (blk_cell BK115.out 1).trans rfl; have hcz8_2 : w7.cell? ⟨gb115, 2, none⟩ = some (.int .i64 a0_2) := (blk_cell BK115.out 2).trans rfl; have hfz8_0 := blk_frozen BK115.out 0; have hfz8_1 := blk_frozen BK115.out 1; have hfz8_2 := blk_frozen BK115.out 2) | ((with_reducible refine gate_callee (f := 44) rfl ?_); refine goesL_ (some 8) rfl rfl Try.func44 (by kernel_rfl) rfl #[.agg #[.int .i64 a0_0, .int .i64 a0_1, .int .i64 a0_2]] rfl (by (try simp only [List.map_toArray, List.map_cons, List.map_nil]); first | done | rfl | (simp only [List.length_drop, List.length_take]; rfl)) ?_; (with_reducible refine (grid_Check.calls a0_0 a0_1 a0_2 t116 _ A4.out).mono ?_); rintro e w9 ⟨rfl, hb⟩; refine ⟨_, rfl, ?_⟩; have n0_ := Aside0.mk (blk_below (g := gb115) (o := .cells #[.int .i64 a0_0, .int .i64 a0_1, .int .i64 a0_2] 23 (0, 0)) (by (with_reducible repeat (first | refine blk_drewN ?_ _ | refine blk_drew ?_ | refine blk_alloc ?_ _)); exact BK115.out) hb); have n1_ := Aside0.mk (below_step (by repeat (first | (with_reducible first | exact HB.out | apply below_alloc | apply pw_below_drewN | apply below_drew1 | refine below_set ?_ GE115.out) | exact HB.out)) hb); clear BK115; clear HB; have BK115 := n0_; have HB := n1_; clear n0_ n1_; (try clear hb); (try clear hb2); (try clear hk); (try clear hi); have hcz10_0 : w9.cell? ⟨gb115, 0, none⟩ = some (.int .i64 a0_0) := (blk_cell BK115.out 0).trans rfl; have hcz10_1 : w9.cell? ⟨gb115, 1, none⟩ = some (.int .i64 a0_1) := (blk_cell BK115.out 1).trans rfl; have hcz10_2 : w9.cell? ⟨gb115, 2, none⟩ = some (.int .i64 a0_2) := (blk_cell BK115.out 2).trans rfl; have hfz10_0 := blk_frozen BK115.out 0; have hfz10_1 := blk_frozen BK115.out 1; have hfz10_2 := blk_frozen BK115.out 2))
      go_ret
      exact ⟨by first | rfl | (simp [errW_none, errW_some] <;> rfl) | (simp [*, errW_none, errW_some] <;> rfl), by repeat (first | (with_reducible first | exact HB.out | apply below_alloc | apply pw_below_drewN | apply below_drew1 | refine below_set ?_ GE115.out) | exact HB.out)⟩
    · rw [if_neg c6] at H
      have c6b0 : decide (0 ≤ a2) = false := decide_eq_false c6
      clear c6
      obtain rfl := Option.some.inj H
      go_enter Try.func46, Try.ntmps46
      go_wp2_with (first | ((with_reducible refine gate_dst (N := 3) rfl ?_); refine box_event ?hg (N := 3) ?hd (cs := #[.int .i64 a0_0, .int .i64 a0_1, .int .i64 a0_2]) (t := 23) ?hr ?_; (case hd => rfl); (case hg => rfl); (case hr => first | (go_simp; done) | (go_simp; rfl)); intro gb115 hg w11 hbox hb; have n0_ := Aside0.mk (below_step (by repeat (first | (with_reducible first | exact HB.out | apply below_alloc | apply pw_below_drewN | apply below_drew1) | exact HB.out)) hb); have n1_ := Aside0.mk (hbox); have n2_ := Aside0.mk ((by rw [hg]; exact (below_size (by repeat (first | (with_reducible first | exact HB.out | apply below_alloc | apply pw_below_drewN | apply below_drew1) | exact HB.out))) : w.heap.size ≤ gb115)); have n3_ := Aside0.mk ((by rw [hg]; exact (below_size (by repeat (first | (with_reducible first | exact HB.out | apply below_alloc | apply pw_below_drewN | apply below_drew1) | exact HB.out))) : w.heap.size ≤ gb115)); clear HB; have HB := n0_; have BK115 := n1_; have GW115 := n2_; have GE115 := n3_; clear n0_ n1_ n2_ n3_; clear hb hbox hg; have hcz12_0 : w11.cell? ⟨gb115, 0, none⟩ = some (.int .i64 a0_0) := (blk_cell BK115.out 0).trans rfl; have hcz12_1 : w11.cell? ⟨gb115, 1, none⟩ = some (.int .i64 a0_1) := (blk_cell BK115.out 1).trans rfl; have hcz12_2 : w11.cell? ⟨gb115, 2, none⟩ = some (.int .i64 a0_2) := (blk_cell BK115.out 2).trans rfl; have hfz12_0 := blk_frozen BK115.out 0; have hfz12_1 := blk_frozen BK115.out 1; have hfz12_2 := blk_frozen BK115.out 2) | ((with_reducible refine gate_callee (f := 44) rfl ?_); refine goesL_ (some 8) rfl rfl Try.func44 (by kernel_rfl) rfl #[.agg #[.int .i64 a0_0, .int .i64 a0_1, .int .i64 a0_2]] rfl (by (try simp only [List.map_toArray, List.map_cons, List.map_nil]); first | done | rfl | (simp only [List.length_drop, List.length_take]; rfl)) ?_; (with_reducible refine (grid_Check.calls a0_0 a0_1 a0_2 t116 _ A4.out).mono ?_); rintro e w13 ⟨rfl, hb⟩; refine ⟨_, rfl, ?_⟩; have n0_ := Aside0.mk (blk_below (g := gb115) (o := .cells #[.int .i64 a0_0, .int .i64 a0_1, .int .i64 a0_2] 23 (0, 0)) (by (with_reducible repeat (first | refine blk_drewN ?_ _ | refine blk_drew ?_ | refine blk_alloc ?_ _)); exact BK115.out) hb); have n1_ := Aside0.mk (below_step (by repeat (first | (with_reducible first | exact HB.out | apply below_alloc | apply pw_below_drewN | apply below_drew1 | refine below_set ?_ GE115.out) | exact HB.out)) hb); clear BK115; clear HB; have BK115 := n0_; have HB := n1_; clear n0_ n1_; (try clear hb); (try clear hb2); (try clear hk); (try clear hi)))
      go_ret
      exact ⟨by first | rfl | (simp [errW_none, errW_some] <;> rfl) | (simp [*, errW_none, errW_some] <;> rfl), by repeat (first | (with_reducible first | exact HB.out | apply below_alloc | apply pw_below_drewN | apply below_drew1 | refine below_set ?_ GE115.out) | exact HB.out)⟩
  · rw [if_neg c5] at H
    have c5b0 : (t116 == 0) = false := beq_eq_false_iff_ne.mpr c5
    have c5b1 : (t116 != 0) = true := bne_iff_ne.mpr c5
    obtain rfl := Option.some.inj H
    go_enter Try.func46, Try.ntmps46
    go_wp2_with (first | ((with_reducible refine gate_dst (N := 3) rfl ?_); refine box_event ?hg (N := 3) ?hd (cs := #[.int .i64 a0_0, .int .i64 a0_1, .int .i64 a0_2]) (t := 23) ?hr ?_; (case hd => rfl); (case hg => rfl); (case hr => first | (go_simp; done) | (go_simp; rfl)); intro gb115 hg w14 hbox hb; have n0_ := Aside0.mk (below_step (by repeat (first | (with_reducible first | exact HB.out | apply below_alloc | apply pw_below_drewN | apply below_drew1) | exact HB.out)) hb); have n1_ := Aside0.mk (hbox); have n2_ := Aside0.mk ((by rw [hg]; exact (below_size (by repeat (first | (with_reducible first | exact HB.out | apply below_alloc | apply pw_below_drewN | apply below_drew1) | exact HB.out))) : w.heap.size ≤ gb115)); have n3_ := Aside0.mk ((by rw [hg]; exact (below_size (by repeat (first | (with_reducible first | exact HB.out | apply below_alloc | apply pw_below_drewN | apply below_drew1) | exact HB.out))) : w.heap.size ≤ gb115)); clear HB; have HB := n0_; have BK115 := n1_; have GW115 := n2_; have GE115 := n3_; clear n0_ n1_ n2_ n3_; clear hb hbox hg; have hcz15_0 : w14.cell? ⟨gb115, 0, none⟩ = some (.int .i64 a0_0) := (blk_cell BK115.out 0).trans rfl; have hcz15_1 : w14.cell? ⟨gb115, 1, none⟩ = some (.int .i64 a0_1) := (blk_cell BK115.out 1).trans rfl; have hcz15_2 : w14.cell? ⟨gb115, 2, none⟩ = some (.int .i64 a0_2) := (blk_cell BK115.out 2).trans rfl; have hfz15_0 := blk_frozen BK115.out 0; have hfz15_1 := blk_frozen BK115.out 1; have hfz15_2 := blk_frozen BK115.out 2) | ((with_reducible refine gate_callee (f := 44) rfl ?_); refine goesL_ (some 8) rfl rfl Try.func44 (by kernel_rfl) rfl #[.agg #[.int .i64 a0_0, .int .i64 a0_1, .int .i64 a0_2]] rfl (by (try simp only [List.map_toArray, List.map_cons, List.map_nil]); first | done | rfl | (simp only [List.length_drop, List.length_take]; rfl)) ?_; (with_reducible refine (grid_Check.calls a0_0 a0_1 a0_2 t116 _ A4.out).mono ?_); rintro e w16 ⟨rfl, hb⟩; refine ⟨_, rfl, ?_⟩; have n0_ := Aside0.mk (blk_below (g := gb115) (o := .cells #[.int .i64 a0_0, .int .i64 a0_1, .int .i64 a0_2] 23 (0, 0)) (by (with_reducible repeat (first | refine blk_drewN ?_ _ | refine blk_drew ?_ | refine blk_alloc ?_ _)); exact BK115.out) hb); have n1_ := Aside0.mk (below_step (by repeat (first | (with_reducible first | exact HB.out | apply below_alloc | apply pw_below_drewN | apply below_drew1 | refine below_set ?_ GE115.out) | exact HB.out)) hb); clear BK115; clear HB; have BK115 := n0_; have HB := n1_; clear n0_ n1_; (try clear hb); (try clear hb2); (try clear hk); (try clear hi)))
    go_ret
    exact ⟨by first | rfl | (simp [errW_none, errW_some] <;> rfl) | (simp [*, errW_none, errW_some] <;> rfl), by repeat (first | (with_reducible first | exact HB.out | apply below_alloc | apply pw_below_drewN | apply below_drew1 | refine below_set ?_ GE115.out) | exact HB.out)⟩
end Go.Proofs.Ytgipepjpkmlmaaa.P
namespace Go.Proofs.Ytgipepjpkmlmaaa.P
set_option linter.unusedVariables false
set_option linter.unusedSimpArgs false
section
open Go.RowKit Go.Proofs.YtgipepjpkmlmaaaW.PrintWords Go.Proofs.YtgipepjpkmlmaaaW.PrintLast Go.Proofs.YtgipepjpkmlmaaaW.PrintMore
/-- From 0 to MaxNum. -/
def inB (n : Int) : Bool := decide (0 ≤ n) && decide (n ≤ 1099511627776)
theorem outs_calls (n : Int) (w : World) : Calls Try.prog 78 #[.int .i64 n] w fun e w' => e = .returned (.bool (!inB n)) ∧ w' = w := by
  by_cases c : n < 0
  · have d : decide (n < 0) = true := decide_eq_true c
    have e : inB n = false := by unfold inB; rw [decide_eq_false (by omega)]; rfl
    rw [e]
    clear c e
    go_enter Try.func78, Try.ntmps78
    go_wp2
    go_ret
    exact ⟨rfl, rfl⟩
  · have d : decide (n < 0) = false := decide_eq_false c
    by_cases c2 : n ≤ 1099511627776
    · have d2 : decide (1099511627776 < n) = false := decide_eq_false (by omega)
      have e : inB n = true := by unfold inB; rw [decide_eq_true (by omega), decide_eq_true c2]; rfl
      rw [e]
      clear c c2 e
      go_enter Try.func78, Try.ntmps78
      go_wp2
      go_ret
      exact ⟨rfl, rfl⟩
    · have d2 : decide (1099511627776 < n) = true := decide_eq_true (by omega)
      have e : inB n = false := by unfold inB; rw [decide_eq_false c2, Bool.and_false]
      rw [e]
      clear c c2 e
      go_enter Try.func78, Try.ntmps78
      go_wp2
      go_ret
      exact ⟨rfl, rfl⟩
/-- The first number that is out, from a place on. -/
def outAt (l : List Int) : Nat → Nat → Int
  | 0, _ => -1
  | k + 1, i => if inB (rd l (i : Int)) = true then outAt l k (i + 1) else (i : Int)
set_option maxHeartbeats 4000000 in
set_option maxRecDepth 100000 in
theorem index_calls (A : Option Addr) (c : Nat) (l : List Int) (w : World) (hr : (Kd.int .i64).C w A l.length l) (hc : l.length ≤ c) (hl : l.length ≤ 1000000) :
    Calls Try.prog 84 #[.slice A l.length c, .func (.func 78) #[] #[]] w fun e w' => e = .returned (.int .i64 (outAt l l.length 0)) ∧ w' = w := by
  go_enter Try.func84, Try.ntmps84
  go_wp2
  go_loopg [8] l.length (fun kq v8 wr => ∃ (i : Nat), v8 = .int .i64 (i : Int) ∧ i ≤ l.length ∧ l.length - i ≤ kq ∧ outAt l (l.length - i) i = outAt l l.length 0 ∧ wr = w)
  case atStart => exact ⟨0, rfl, Nat.zero_le _, by omega, rfl, rfl⟩
  case round =>
    obtain ⟨i, rfl, hil, hik, ho, rfl⟩ := hrel
    by_cases hlt : i < l.length
    rotate_left
    · have d1 : decide ((i : Int) < (l.length : Int)) = false := decide_eq_false (by omega)
      rw [show l.length - i = 0 by omega] at ho
      have HO := Lib.hid ho
      clear ho
      go_wp2
      go_ret
      exact ⟨by rw [← HO.out]; rfl, rfl⟩
    have d1 : decide ((i : Int) < (l.length : Int)) = true := decide_eq_true (by omega)
    obtain ⟨ad, rfl, hx⟩ := Kd.at_int hr (i : Int) (by omega) (by omega)
    rw [Int.toNat_natCast] at hx
    rw [show l.length - i = (l.length - (i + 1)) + 1 by omega] at ho
    simp only [outAt] at ho
    revert hx ho
    generalize rd l (i : Int) = n
    intro ho hx
    cases gk with
    | zero => omega
    | succ gk =>
    cases hn : inB n with
    | true =>
      rw [if_pos hn] at ho
      have HO := Lib.hid ho
      have hcall := outs_calls n wr
      rw [hn] at hcall
      clear ho hn
      go_wp2_with (first | (go_at_call 78; go_loud ((with_reducible refine hcall.mono ?_); rintro e w' ⟨rfl, rfl⟩)))
      go_roundg gk
      case measure => omega
      case rel => exact ⟨i + 1, by congr 1, by omega, by omega, HO.out, rfl⟩
    | false =>
      rw [if_neg (by rw [hn]; decide)] at ho
      have HO := Lib.hid ho
      have hcall := outs_calls n wr
      rw [hn] at hcall
      clear ho hn
      go_wp2_with (first | (go_at_call 78; go_loud ((with_reducible refine hcall.mono ?_); rintro e w' ⟨rfl, rfl⟩)))
      go_ret
      exact ⟨by rw [← HO.out]; rfl, rfl⟩
theorem outAt_all (l : List Int) : ∀ k i, i + k = l.length → (0 ≤ outAt l k i ↔ (l.drop i).all inB = false) := by
  intro k
  induction k with
  | zero => intro i h; rw [List.drop_of_length_le (by omega)]; simp [outAt]
  | succ k ih =>
    intro i h
    have e : rd l (i : Int) = l[i] := by simp [rd, List.getD, List.getElem?_eq_getElem (show i < l.length by omega)]
    have e2 : outAt l (k + 1) i = if inB (rd l (i : Int)) = true then outAt l k (i + 1) else (i : Int) := rfl
    rw [List.drop_eq_getElem_cons (by omega), List.all_cons, ← e, e2]
    by_cases c : inB (rd l (i : Int)) = true
    · rw [if_pos c, ih (i + 1) (by omega), c]; simp
    · rw [if_neg c, Bool.eq_false_iff.2 c]; simp
theorem within_calls (A : Option Addr) (c : Nat) (l : List Int) (w : World) (hr : (Kd.int .i64).C w A l.length l) (hc : l.length ≤ c) (hl : l.length ≤ 1000000) :
    Calls Try.prog 45 #[.slice A l.length c] w fun e w' => e = .returned (.bool (l.all inB)) ∧ w' = w := by
  have h77 : Calls Try.prog 77 #[.slice A l.length c, .func (.func 78) #[] #[]] w fun e w' => e = .returned (.bool (!(l.all inB))) ∧ w' = w := by
    have hx := index_calls A c l w hr hc hl
    have ha := outAt_all l l.length 0 (by omega)
    rw [List.drop_zero] at ha
    have hd : decide (0 ≤ outAt l l.length 0) = !(l.all inB) := by
      cases h : l.all inB with
      | true => rw [h] at ha; exact decide_eq_false (fun q => by have := ha.1 q; cases this)
      | false => exact decide_eq_true (ha.2 h)
    rw [← hd]
    clear ha hd
    go_enter Try.func77, Try.ntmps77
    go_wp2_with (first | (go_at_call 84; go_loud ((with_reducible refine hx.mono ?_); rintro e w' ⟨rfl, rfl⟩)))
    go_ret
    exact ⟨rfl, rfl⟩
  generalize hb : l.all inB = b at h77 ⊢
  clear hb
  go_enter Try.func45, Try.ntmps45
  go_wp2_with (first | (go_at_call 77; go_loud ((with_reducible refine h77.mono ?_); rintro e w' ⟨rfl, rfl⟩)))
  go_ret
  exact ⟨by cases b <;> rfl, rfl⟩
end
section
open Go.RowKit Go.Proofs.YtgipepjpkmlmaaaW.PrintWords Go.Proofs.YtgipepjpkmlmaaaW.PrintLast Go.Proofs.YtgipepjpkmlmaaaW.PrintMore
abbrev aggV (a : S44) : Value := .agg #[.int .i64 a.f0, .int .i64 a.f1, .int .i64 a.f2, .int .i64 a.f3, .int .i64 a.f4.f0, .int .i64 a.f4.f1, .int .i64 a.f4.f2, .int .i64 a.f4.f3, .int .i64 a.f5, .int .i64 a.f6]
def hist (h : S42) : Nat → Int
  | 0 => h.f0
  | 1 => h.f1
  | 2 => h.f2
  | _ => h.f3
/-- Whether all is well so far, and how many are left. -/
def aggSt (a : S44) : Nat → Bool × Int
  | 0 => (decide (1 ≤ a.f0) && (decide (a.f0 ≤ 1099511627776) && decide (a.f2 ≤ a.f3)), a.f0)
  | i + 1 => ((aggSt a i).1 && (decide (0 ≤ hist a.f4 i) && decide (hist a.f4 i ≤ (aggSt a i).2)), wrap64 ((aggSt a i).2 - hist a.f4 i))
/-- OK or ErrArg. -/
def argE (b : Bool) : Int := if b = true then 0 else 1
def farC (n c : Int) : Int × Bool := if n < wrap64 (-c) ∨ c < n then (0, false) else (mx n (wrap64 (-n)), true)
def aggOk (a : S44) : Bool := (aggSt a 4).1 && ((aggSt a 4).2 == 0 && ((farC a.f5 a.f0).2 && ((farC a.f6 a.f0).2 && decide (wrap64 ((farC a.f5 a.f0).1 + (farC a.f6 a.f0).1) ≤ a.f0))))
theorem far_calls (n c : Int) (w : World) : Calls Try.prog 79 #[.int .i64 n, .int .i64 c] w fun e w' => e = .returned (.tuple #[.int .i64 (farC n c).1, .bool (farC n c).2]) ∧ w' = w := by
  obtain ⟨r, hr⟩ : ∃ r, farC n c = r := ⟨_, rfl⟩
  rw [hr]
  unfold farC at hr
  by_cases h1 : n < wrap64 (-c)
  · rw [if_pos (.inl h1)] at hr
    subst hr
    have d1 : decide (n < wrap64 (-c)) = true := decide_eq_true h1
    go_enter Try.func79, Try.ntmps79
    go_wp2
    go_ret2
    exact ⟨rfl, rfl⟩
  · have d1 : decide (n < wrap64 (-c)) = false := decide_eq_false h1
    by_cases h2 : c < n
    · rw [if_pos (.inr h2)] at hr
      subst hr
      have d2 : decide (c < n) = true := decide_eq_true h2
      go_enter Try.func79, Try.ntmps79
      go_wp2
      go_ret2
      exact ⟨rfl, rfl⟩
    · rw [if_neg (fun q => q.elim h1 h2)] at hr
      subst hr
      have d2 : decide (c < n) = false := decide_eq_false h2
      clear h1 h2
      by_cases h3 : n < wrap64 (-n)
      · have e : mx n (wrap64 (-n)) = wrap64 (-n) := if_pos h3
        rw [e]
        go_enter Try.func79, Try.ntmps79
        go_wp2
        go_ret2
        exact ⟨rfl, rfl⟩
      · have e : mx n (wrap64 (-n)) = n := if_neg h3
        rw [e]
        go_enter Try.func79, Try.ntmps79
        go_wp2
        go_ret2
        exact ⟨rfl, rfl⟩
theorem idx42_0 (h0 h1 h2 h3 : Int) (w : World) : (Instr.index 42 (.agg #[.int .i64 h0, .int .i64 h1, .int .i64 h2, .int .i64 h3]) (.int .i64 0)).run Try.prog w = .ok (.int .i64 h0) w := by kernel_rfl
theorem idx42_1 (h0 h1 h2 h3 : Int) (w : World) : (Instr.index 42 (.agg #[.int .i64 h0, .int .i64 h1, .int .i64 h2, .int .i64 h3]) (.int .i64 1)).run Try.prog w = .ok (.int .i64 h1) w := by kernel_rfl
theorem idx42_2 (h0 h1 h2 h3 : Int) (w : World) : (Instr.index 42 (.agg #[.int .i64 h0, .int .i64 h1, .int .i64 h2, .int .i64 h3]) (.int .i64 2)).run Try.prog w = .ok (.int .i64 h2) w := by kernel_rfl
theorem idx42_3 (h0 h1 h2 h3 : Int) (w : World) : (Instr.index 42 (.agg #[.int .i64 h0, .int .i64 h1, .int .i64 h2, .int .i64 h3]) (.int .i64 3)).run Try.prog w = .ok (.int .i64 h3) w := by kernel_rfl
set_option maxHeartbeats 4000000 in
set_option maxRecDepth 100000 in
theorem aggCheck_calls (a : S44) (w : World) : Calls Try.prog 47 #[aggV a] w fun e w' => e = .returned (.int .i64 (argE (aggOk a))) ∧ Below w.heap.size w w' := by
  obtain ⟨s4, hs4⟩ : ∃ s, s = aggSt a 4 := ⟨_, rfl⟩
  have hok : aggOk a = (s4.1 && (s4.2 == 0 && ((farC a.f5 a.f0).2 && ((farC a.f6 a.f0).2 && decide (wrap64 ((farC a.f5 a.f0).1 + (farC a.f6 a.f0).1) ≤ a.f0))))) := by rw [hs4]; rfl
  have st0 : aggSt a 0 = (decide (1 ≤ a.f0) && (decide (a.f0 ≤ 1099511627776) && decide (a.f2 ≤ a.f3)), a.f0) := rfl
  have stS : ∀ i, aggSt a (i + 1) = ((aggSt a i).1 && (decide (0 ≤ hist a.f4 i) && decide (hist a.f4 i ≤ (aggSt a i).2)), wrap64 ((aggSt a i).2 - hist a.f4 i)) := fun _ => rfl
  have hf5 := far_calls a.f5 a.f0
  have hf6 := far_calls a.f6 a.f0
  revert st0 stS hs4 hok hf5 hf6
  generalize aggSt a = st
  generalize aggOk a = okA
  obtain ⟨n0, n1, n2, n3, ⟨h0, h1, h2, h3⟩, n5, n6⟩ := a
  simp only
  generalize farC n5 n0 = f5
  generalize farC n6 n0 = f6
  intro hs4 hok st0 stS hf5 hf6
  obtain ⟨H, hH⟩ : ∃ H : S42, H = ⟨h0, h1, h2, h3⟩ := ⟨_, rfl⟩
  have hX1 : (w.alloc (.cells #[.int .i64 n0, .int .i64 n1, .int .i64 n2, .int .i64 n3, .int .i64 h0, .int .i64 h1, .int .i64 h2, .int .i64 h3, .int .i64 n5, .int .i64 n6] 44)).heap[w.heap.size]? = some (.cells #[.int .i64 n0, .int .i64 n1, .int .i64 n2, .int .i64 n3, .int .i64 h0, .int .i64 h1, .int .i64 h2, .int .i64 h3, .int .i64 n5, .int .i64 n6] 44 (0, 0)) := heap_alloc_new _ _
  have hb1 : Below w.heap.size w (w.alloc (.cells #[.int .i64 n0, .int .i64 n1, .int .i64 n2, .int .i64 n3, .int .i64 h0, .int .i64 h1, .int .i64 h2, .int .i64 h3, .int .i64 n5, .int .i64 n6] 44)) := (Below.refl _ _).alloc (Nat.le_refl _) _
  have HX1 := Lib.hid hX1
  have S0 := Lib.hid st0
  have SS := Lib.hid stS
  have HS4 := Lib.hid hs4
  have HOk := Lib.hid hok
  clear st0 stS hs4 hok hX1 hH
  go_enter Try.func47, Try.ntmps47
  go_upto_region 2 with fail
  obtain ⟨W1, hW1⟩ : ∃ W1, W1 = w.alloc (.cells #[.int .i64 n0, .int .i64 n1, .int .i64 n2, .int .i64 n3, .int .i64 h0, .int .i64 h1, .int .i64 h2, .int .i64 h3, .int .i64 n5, .int .i64 n6] 44) := ⟨_, rfl⟩
  go_cut [4] (fun v4 wc => v4 = .bool (st 0).1 ∧ wc = w.alloc (.cells #[.int .i64 n0, .int .i64 n1, .int .i64 n2, .int .i64 n3, .int .i64 h0, .int .i64 h1, .int .i64 h2, .int .i64 h3, .int .i64 n5, .int .i64 n6] 44))
  case first =>
    clear SS HS4 HOk HX1 hW1
    by_cases c1 : 1 ≤ n0
    · have d1 : decide (1 ≤ n0) = true := decide_eq_true c1
      by_cases c2 : n0 ≤ 1099511627776
      · have d2 : decide (n0 ≤ 1099511627776) = true := decide_eq_true c2
        go_wp2
        go_meet
        case rel => exact ⟨by rw [S0.out]; simp only [d1, d2]; rfl, rfl⟩
      · have d2 : decide (n0 ≤ 1099511627776) = false := decide_eq_false c2
        go_wp2
        go_meet
        case rel => exact ⟨by rw [S0.out]; simp only [d1, d2]; rfl, rfl⟩
    · have d1 : decide (1 ≤ n0) = false := decide_eq_false c1
      go_wp2
      go_meet
      case rel => exact ⟨by rw [S0.out]; simp only [d1]; rfl, rfl⟩
  case rest =>
    obtain ⟨rfl, rfl⟩ := hcut
    have hX1 := HX1.out
    go_wp2_with fail
    go_loopg [30,4,3] 4 (fun kq v30 v4 v3 wr => ∃ (i : Nat), v30 = .int .i64 (i : Int) ∧ i ≤ 4 ∧ 4 - i ≤ kq ∧ v4 = .bool (st i).1 ∧ v3 = .int .i64 (st i).2 ∧ wr = w.alloc (.cells #[.int .i64 n0, .int .i64 n1, .int .i64 n2, .int .i64 n3, .int .i64 h0, .int .i64 h1, .int .i64 h2, .int .i64 h3, .int .i64 n5, .int .i64 n6] 44))
    case atStart => exact ⟨0, rfl, by omega, by omega, by first | rfl | (rw [S0.out]), by first | rfl | (rw [S0.out]), rfl⟩
    case round =>
      obtain ⟨i, rfl, hi4, hik, rfl, rfl, rfl⟩ := hrel
      by_cases hlt : i < 4
      rotate_left
      · have hi : i = 4 := by omega
        subst hi
        have e4 : st 4 = s4 := HS4.out.symm
        rw [e4]
        clear e4 HS4
        obtain ⟨b, t⟩ := s4
        have ho := HOk.out
        simp only at ho
        have HO := Lib.hid ho
        clear ho HOk S0 SS
        cases b with
        | false =>
          go_wp2
          go_ret
          exact ⟨by rw [HO.out]; rfl, hb1⟩
        | true =>
        by_cases ct : t = 0
        rotate_left
        · have d1 : (t == 0) = false := beq_eq_false_iff_ne.mpr ct
          have d2 : (t != 0) = true := bne_iff_ne.mpr ct
          go_wp2
          go_ret
          exact ⟨by rw [HO.out, d1]; rfl, hb1⟩
        have d1 : (t == 0) = true := beq_iff_eq.mpr ct
        have d2 : (t != 0) = false := bne_eq_false_iff_eq.mpr ct
        have ho := HO.out
        rw [d1] at ho
        simp only [Bool.true_and] at ho
        replace HO := Lib.hid ho
        clear ho ct
        obtain ⟨x, bx⟩ := f5
        obtain ⟨y, bY⟩ := f6
        simp only at hf5 hf6
        cases bx with
        | false =>
          go_wp2_with (first | (go_at_call 79; go_loud (first | (with_reducible refine (hf5 _).mono ?_) | (with_reducible refine (hf6 _).mono ?_)); (rintro e w' ⟨rfl, rfl⟩)))
          go_ret
          exact ⟨by rw [HO.out]; rfl, hb1⟩
        | true =>
        cases bY with
        | false =>
          go_wp2_with (first | (go_at_call 79; go_loud (first | (with_reducible refine (hf5 _).mono ?_) | (with_reducible refine (hf6 _).mono ?_)); (rintro e w' ⟨rfl, rfl⟩)))
          go_ret
          exact ⟨by rw [HO.out]; rfl, hb1⟩
        | true =>
        by_cases cd : wrap64 (x + y) ≤ n0
        · have d3 : decide (wrap64 (x + y) ≤ n0) = true := decide_eq_true cd
          have d4 : decide (n0 < wrap64 (x + y)) = false := decide_eq_false (by omega)
          go_wp2_with (first | (go_at_call 79; go_loud (first | (with_reducible refine (hf5 _).mono ?_) | (with_reducible refine (hf6 _).mono ?_)); (rintro e w' ⟨rfl, rfl⟩)))
          go_ret
          exact ⟨by rw [HO.out, d3]; rfl, hb1⟩
        · have d3 : decide (wrap64 (x + y) ≤ n0) = false := decide_eq_false cd
          have d4 : decide (n0 < wrap64 (x + y)) = true := decide_eq_true (by omega)
          go_wp2_with (first | (go_at_call 79; go_loud (first | (with_reducible refine (hf5 _).mono ?_) | (with_reducible refine (hf6 _).mono ?_)); (rintro e w' ⟨rfl, rfl⟩)))
          go_ret
          exact ⟨by rw [HO.out, d3]; rfl, hb1⟩
      cases gk with
      | zero => omega
      | succ gk =>
      have hi : i = 0 ∨ i = 1 ∨ i = 2 ∨ i = 3 := by omega
      rcases hi with rfl | rfl | rfl | rfl
      · have d0 : decide (((0 : Nat) : Int) < 4) = true := by decide
        have s1 := SS.out 0
        simp only [hist] at s1
        generalize hp : st 0 = p at s1 ⊢
        obtain ⟨b, t⟩ := p
        simp only at s1
        have S1 := Lib.hid s1
        clear s1 hp
        have ix := idx42_0 h0 h1 h2 h3
        cases b with
        | false =>
          go_wp2
          go_roundg gk
          case measure => omega
          case rel => exact ⟨0 + 1, by rfl, by omega, by omega, by rw [S1.out]; rfl, by rw [S1.out], rfl⟩
        | true =>
          by_cases c1 : 0 ≤ h0
          · have d1 : decide (0 ≤ h0) = true := decide_eq_true c1
            go_wp2
            go_roundg gk
            case measure => omega
            case rel => exact ⟨0 + 1, by rfl, by omega, by omega, by rw [S1.out]; simp only [d1, Bool.true_and, Bool.false_and, Bool.and_false], by rw [S1.out], rfl⟩
          · have d1 : decide (0 ≤ h0) = false := decide_eq_false c1
            go_wp2
            go_roundg gk
            case measure => omega
            case rel => exact ⟨0 + 1, by rfl, by omega, by omega, by rw [S1.out]; simp only [d1, Bool.true_and, Bool.false_and, Bool.and_false], by rw [S1.out], rfl⟩
      · have d0 : decide (((1 : Nat) : Int) < 4) = true := by decide
        have s1 := SS.out 1
        simp only [hist] at s1
        generalize hp : st 1 = p at s1 ⊢
        obtain ⟨b, t⟩ := p
        simp only at s1
        have S1 := Lib.hid s1
        clear s1 hp
        have ix := idx42_1 h0 h1 h2 h3
        cases b with
        | false =>
          go_wp2
          go_roundg gk
          case measure => omega
          case rel => exact ⟨1 + 1, by rfl, by omega, by omega, by rw [S1.out]; rfl, by rw [S1.out], rfl⟩
        | true =>
          by_cases c1 : 0 ≤ h1
          · have d1 : decide (0 ≤ h1) = true := decide_eq_true c1
            go_wp2
            go_roundg gk
            case measure => omega
            case rel => exact ⟨1 + 1, by rfl, by omega, by omega, by rw [S1.out]; simp only [d1, Bool.true_and, Bool.false_and, Bool.and_false], by rw [S1.out], rfl⟩
          · have d1 : decide (0 ≤ h1) = false := decide_eq_false c1
            go_wp2
            go_roundg gk
            case measure => omega
            case rel => exact ⟨1 + 1, by rfl, by omega, by omega, by rw [S1.out]; simp only [d1, Bool.true_and, Bool.false_and, Bool.and_false], by rw [S1.out], rfl⟩
      · have d0 : decide (((2 : Nat) : Int) < 4) = true := by decide
        have s1 := SS.out 2
        simp only [hist] at s1
        generalize hp : st 2 = p at s1 ⊢
        obtain ⟨b, t⟩ := p
        simp only at s1
        have S1 := Lib.hid s1
        clear s1 hp
        have ix := idx42_2 h0 h1 h2 h3
        cases b with
        | false =>
          go_wp2
          go_roundg gk
          case measure => omega
          case rel => exact ⟨2 + 1, by rfl, by omega, by omega, by rw [S1.out]; rfl, by rw [S1.out], rfl⟩
        | true =>
          by_cases c1 : 0 ≤ h2
          · have d1 : decide (0 ≤ h2) = true := decide_eq_true c1
            go_wp2
            go_roundg gk
            case measure => omega
            case rel => exact ⟨2 + 1, by rfl, by omega, by omega, by rw [S1.out]; simp only [d1, Bool.true_and, Bool.false_and, Bool.and_false], by rw [S1.out], rfl⟩
          · have d1 : decide (0 ≤ h2) = false := decide_eq_false c1
            go_wp2
            go_roundg gk
            case measure => omega
            case rel => exact ⟨2 + 1, by rfl, by omega, by omega, by rw [S1.out]; simp only [d1, Bool.true_and, Bool.false_and, Bool.and_false], by rw [S1.out], rfl⟩
      · have d0 : decide (((3 : Nat) : Int) < 4) = true := by decide
        have s1 := SS.out 3
        simp only [hist] at s1
        generalize hp : st 3 = p at s1 ⊢
        obtain ⟨b, t⟩ := p
        simp only at s1
        have S1 := Lib.hid s1
        clear s1 hp
        have ix := idx42_3 h0 h1 h2 h3
        cases b with
        | false =>
          go_wp2
          go_roundg gk
          case measure => omega
          case rel => exact ⟨3 + 1, by rfl, by omega, by omega, by rw [S1.out]; rfl, by rw [S1.out], rfl⟩
        | true =>
          by_cases c1 : 0 ≤ h3
          · have d1 : decide (0 ≤ h3) = true := decide_eq_true c1
            go_wp2
            go_roundg gk
            case measure => omega
            case rel => exact ⟨3 + 1, by rfl, by omega, by omega, by rw [S1.out]; simp only [d1, Bool.true_and, Bool.false_and, Bool.and_false], by rw [S1.out], rfl⟩
          · have d1 : decide (0 ≤ h3) = false := decide_eq_false c1
            go_wp2
            go_roundg gk
            case measure => omega
            case rel => exact ⟨3 + 1, by rfl, by omega, by omega, by rw [S1.out]; simp only [d1, Bool.true_and, Bool.false_and, Bool.and_false], by rw [S1.out], rfl⟩
end
section
open Go.RowKit Go.Proofs.YtgipepjpkmlmaaaW.PrintWords Go.Proofs.YtgipepjpkmlmaaaW.PrintLast Go.Proofs.YtgipepjpkmlmaaaW.PrintMore
def intOf : Value → Int | .int _ q => q | _ => 0
theorem wp_scope_label {P : Program} {a : Act} {w : World} {Q : Exit → Act → World → Prop} {c rest : Code} (l : Nat) (J : Act → World → Prop) (μ : Act → World → Nat) (hf : findLabel c l = some (Code.skip.seq rest))
    (first : (∀ a w, J a w → rest.wp P (Exit.jump l J Q) a w) → c.wp P (Exit.jump l J Q) a w)
    (pass : ∀ a w, J a w → rest.wp P (Exit.jump l (fun a' w' => J a' w' ∧ μ a' w' < μ a w) Q) a w) : (Code.scope c).wp P Q a w :=
  wp_scope_jumps l J μ hf (first fun a w h => Code.wp_mono (fun e a' w' hq => by
    cases e <;> first | exact hq | exact ⟨hq.1, hq.2.1⟩) (pass a w h)) fun a w h => wp_seq (wp_skip (pass a w h))
structure U68 where
  u7 : Value
  u8 : Value
  u9 : Value
  u10 : Value
  u11 : Value
  u12 : Value
  u13 : Value
  u14 : Value
  u15 : Value
  u16 : Value
  u17 : Value
  u18 : Value
  u19 : Value
  u20 : Value
  u21 : Value
  u22 : Value
  u23 : Value
  u24 : Value
  u25 : Value
  u26 : Value
  u27 : Value
  u28 : Value
  u29 : Value
  u30 : Value
  u31 : Value
  u32 : Value
  u33 : Value
  u34 : Value
  u35 : Value
  u36 : Value
  u37 : Value
  u38 : Value
  u39 : Value
  u40 : Value
  u41 : Value
  u42 : Value
  u43 : Value
  u44 : Value
  u45 : Value
  u46 : Value
  u47 : Value
  u48 : Value
  u49 : Value
  u50 : Value
  u51 : Value
  u52 : Value
  u53 : Value
  u54 : Value
  u55 : Value
/-- The number so far, with the bits of one byte more. -/
def tkOr (u c : Int) (k : Nat) : Int := bits .or .u64 u (IntKind.u64.wrap (IntKind.u64.wrap (bits .and .u8 c 127) * 2 ^ (7 * k)))
/-- The signed number. -/
def tkN (u : Int) : Int := bits .xor .i64 (wrap64 (u / 2)) (wrap64 (-(wrap64 (bits .and .u64 u 1))))
/-- What varint.Take answers, from byte k on, with u of those ahead of it. -/
def tkL (s : ByteArray) : Nat → Nat → Int → Int × ByteArray × Int
  | 0, _, _ => (0, ⟨#[]⟩, 2)
  | f + 1, k, u => if k = s.size ∨ k = 10 then (0, ⟨#[]⟩, 2) else
      if 128 ≤ bt s (k : Int) then tkL s f (k + 1) (tkOr u (bt s (k : Int)) k)
      else if (0 < k ∧ bt s (k : Int) = 0) ∨ (k = 9 ∧ 1 < bt s (k : Int)) then (0, ⟨#[]⟩, 2)
      else (tkN (tkOr u (bt s (k : Int)) k), s.extract (k + 1) s.size, 0)
set_option maxHeartbeats 8000000 in
set_option maxRecDepth 100000 in
theorem vtake_calls (s : ByteArray) (w : World) (hs : s.size ≤ 1000000000) : Calls Try.prog 68 #[.string s] w fun e w' => e = .returned (.tuple #[.int .i64 (tkL s 11 0 0).1, .string (tkL s 11 0 0).2.1, .int .i64 (tkL s 11 0 0).2.2]) ∧ Below w.heap.size w w' := by
  generalize hT : tkL s 11 0 0 = T
  obtain ⟨r1, r2, r3⟩ := T
  go_enter Try.func68, Try.ntmps68
  go_wp2
  refine wp_scope_label 0 (fun a' w' => ∃ (k : Nat) (u : Int) (v : U68), a' = { tmps := #[.string s, undef, .int .i64 0, .string ⟨#[]⟩, .int .i64 0, .int .u64 u, .int .i64 (k : Int), v.u7, v.u8, v.u9, v.u10, v.u11, v.u12, v.u13, v.u14, v.u15, v.u16, v.u17, v.u18, v.u19, v.u20, v.u21, v.u22, v.u23, v.u24, v.u25, v.u26, v.u27, v.u28, v.u29, v.u30, v.u31, v.u32, v.u33, v.u34, v.u35, v.u36, v.u37, v.u38, v.u39, v.u40, v.u41, v.u42, v.u43, v.u44, v.u45, v.u46, v.u47, v.u48, v.u49, v.u50, v.u51, v.u52, v.u53, v.u54, v.u55], defers := [] } ∧ k ≤ 10 ∧ k ≤ s.size ∧ tkL s (11 - k) k u = (r1, r2, r3) ∧ w' = w) (fun a' _ => 10 - (intOf (a'.tmps.getD 6 undef)).toNat) rfl ?_ ?_
  · intro hp
    go_wp2
    go_step3
    rename_i K hK
    refine hK _ _ (hp _ _ ⟨0, 0, ⟨_, _, _, _, _, _, _, _, _, _, _, _, _, _, _, _, _, _, _, _, _, _, _, _, _, _, _, _, _, _, _, _, _, _, _, _, _, _, _, _, _, _, _, _, _, _, _, _, _⟩, rfl, by omega, by omega, hT, rfl⟩)
  · rintro a' wr ⟨k, u, v, rfl, hk10, hks, hT, rfl⟩
    rw [show 11 - k = (10 - k) + 1 by omega] at hT
    simp only [tkL] at hT
    by_cases e0 : k = s.size
    · have d0 : ((k : Int) == (s.size : Int)) = true := beq_iff_eq.2 (by rw [e0])
      rw [if_pos (.inl e0)] at hT
      cases hT
      clear e0
      go_wp2
      simp only [Exit.jump]
      go_ret3
      exact ⟨rfl, Below.refl _ _⟩
    have d0 : ((k : Int) == (s.size : Int)) = false := beq_eq_false_iff_ne.2 (by omega)
    by_cases e1 : k = 10
    · subst e1
      rw [if_pos (.inr rfl)] at hT
      cases hT
      have d1 : (((10 : Nat) : Int) == 10) = true := by decide
      go_wp2
      simp only [Exit.jump]
      go_ret3
      exact ⟨rfl, Below.refl _ _⟩
    have d1 : ((k : Int) == 10) = false := beq_eq_false_iff_ne.2 (by omega)
    rw [if_neg (fun q => q.elim e0 e1)] at hT
    have hlt : k < s.size := by omega
    have hkk : (s[k]'hlt).toNat < 256 := (s[k]'hlt).toNat_lt
    have hbt : bt s (k : Int) = ((s[k]'hlt).toNat : Int) := by simp [bt, hlt]
    rw [hbt] at hT
    generalize hc : ((s[k]'hlt).toNat : Int) = c at hT
    have hc0 : 0 ≤ c ∧ c < 256 := by omega
    by_cases e2 : 128 ≤ c
    · rw [if_pos e2] at hT
      have HT := Lib.hid hT
      have d2 : decide (128 ≤ c) = true := decide_eq_true e2
      clear hT hbt e2
      go_wp2
      go_step3
      refine ⟨rfl, ⟨k + 1, tkOr u c k, ⟨_, _, _, _, _, _, _, _, _, _, _, _, _, _, _, _, _, _, _, _, _, _, _, _, _, _, _, _, _, _, _, _, _, _, _, _, _, _, _, _, _, _, _, _, _, _, _, _, _⟩, rfl, by omega, by omega, ?_, rfl⟩, ?_⟩
      · rw [show 11 - (k + 1) = 10 - k by omega]; exact HT.out
      · show 10 - (((k + 1 : Nat) : Int)).toNat < 10 - ((k : Int)).toNat
        omega
    rw [if_neg e2] at hT
    have d2 : decide (128 ≤ c) = false := decide_eq_false e2
    by_cases e3 : (0 < k ∧ c = 0) ∨ (k = 9 ∧ 1 < c)
    · rw [if_pos e3] at hT
      cases hT
      by_cases e4 : k = 0
      · subst e4
        have e5 : False := by omega
        exact e5.elim
      have d3 : decide (1 < (k : Int) + 1) = true := decide_eq_true (by omega)
      by_cases e5 : c = 0
      · have d4 : (c == 0) = true := beq_iff_eq.2 e5
        clear e3 hbt
        have d6 : ((k : Int) + 1 == 10) = ((k : Int) + 1 == 10) := rfl
        go_wp2
        simp only [Exit.jump]
        go_ret3
        exact ⟨rfl, Below.refl _ _⟩
      · have d4 : (c == 0) = false := beq_eq_false_iff_ne.2 e5
        have e6 : k = 9 := by omega
        subst e6
        have d5 : decide (1 < c) = true := decide_eq_true (by omega)
        clear e3 hbt
        go_wp2
        simp only [Exit.jump]
        go_ret3
        exact ⟨rfl, Below.refl _ _⟩
    · rw [if_neg e3] at hT
      have HT := Lib.hid hT
      clear hT hbt
      by_cases e4 : k = 0
      · have d3 : decide (1 < (k : Int) + 1) = false := decide_eq_false (by omega)
        have d9 : ((k : Int) + 1 == 10) = false := beq_eq_false_iff_ne.2 (by omega)
        clear e3 e4
        go_wp2
        go_region
        go_wp2
        simp only [Exit.jump]
        go_ret3
        have ho := HT.out
        cases ho
        exact ⟨rfl, below_drew (Below.refl _ _)⟩
      have d3 : decide (1 < (k : Int) + 1) = true := decide_eq_true (by omega)
      have d4 : (c == 0) = false := beq_eq_false_iff_ne.2 (by omega)
      by_cases e9 : k = 9
      · have d9 : ((k : Int) + 1 == 10) = true := beq_iff_eq.2 (by omega)
        have d5 : decide (1 < c) = false := decide_eq_false (by omega)
        clear e3 e4 e9
        go_wp2
        go_region
        go_wp2
        simp only [Exit.jump]
        go_ret3
        have ho := HT.out
        cases ho
        exact ⟨rfl, below_drew (Below.refl _ _)⟩
      · have d9 : ((k : Int) + 1 == 10) = false := beq_eq_false_iff_ne.2 (by omega)
        clear e3 e4 e9
        go_wp2
        go_region
        go_wp2
        simp only [Exit.jump]
        go_ret3
        have ho := HT.out
        cases ho
        exact ⟨rfl, below_drew (Below.refl _ _)⟩
end
section
open Go.RowKit Go.Proofs.YtgipepjpkmlmaaaW.PrintWords Go.Proofs.YtgipepjpkmlmaaaW.PrintLast Go.Proofs.YtgipepjpkmlmaaaW.PrintMore
/-- What engine.Value answers. -/
def valP (s : ByteArray) : Int × Bool := ((tkL s 11 0 0).1, (tkL s 11 0 0).2.2 == 0 && (tkL s 11 0 0).2.1.toList.isEmpty)
end
end Go.Proofs.Ytgipepjpkmlmaaa.P
namespace Go.Proofs.Ytgipepjpkmlmaaa.P
open Go.RowKit Go.Proofs.YtgipepjpkmlmaaaW.PrintWords Go.Proofs.YtgipepjpkmlmaaaW.PrintLast Go.Proofs.YtgipepjpkmlmaaaW.PrintMore
attribute [local go_sem] max2_int min2_int max_two min_two max_three min_three max_four min_four   -- for this text's walks alone
set_option linter.unusedVariables false
set_option linter.unusedSimpArgs false
def cmp_Or_int.l0 : Nat → Int → List Int → Int → Int → Option (Int)
  | 0, _, _, _, _ => none
  | k + 1, x3, x6, x7, x8 => if x8 < x7 then (if 0 ≤ x8 then (if x8 < (x6.length : Int) then (if (rd x6 x8) = x3 then (cmp_Or_int.l0 k x3 x6 x7 (wrap64 (x8 + 1))) else (some (rd x6 x8))) else (none)) else (none)) else (some x3)
def cmp_Or_int.f (k : Nat) (l0 : List Int) : Option (Int) := cmp_Or_int.l0 k 0 l0 (l0.length : Int) 0
theorem cmp_Or_int.mono_l : ∀ k, (∀ y0 y1 y2 y3, LeO (cmp_Or_int.l0 k y0 y1 y2 y3) (cmp_Or_int.l0 (k + 1) y0 y1 y2 y3))
  | 0 => fun _ _ _ _ r h => by simp [cmp_Or_int.l0] at h
  | k + 1 => by
    have ih0 := cmp_Or_int.mono_l k
    · intro y0 y1 y2 y3
      unfold cmp_Or_int.l0
      repeat' first
      | (with_reducible exact ih0 _ _ _ _)
      | (with_reducible exact LeO.refl _)
      | (with_reducible exact LeO.none _)
      | (with_reducible refine LeO.ite ?_ ?_)
      | (with_reducible refine LeO.bind ?_ (fun _ => ?_))
      | exact ih0 _ _ _ _
      | exact LeO.none _
      | refine LeO.ite ?_ ?_
      | refine LeO.bind ?_ (fun _ => ?_)
theorem cmp_Or_int.mono : ∀ a0 k, LeO (cmp_Or_int.f k a0) (cmp_Or_int.f (k + 1) a0) := by
  intro a0 k
  have ih0 := cmp_Or_int.mono_l k
  unfold cmp_Or_int.f
  repeat' first
      | (with_reducible exact ih0 _ _ _ _)
      | (with_reducible exact LeO.refl _)
      | (with_reducible exact LeO.none _)
      | (with_reducible refine LeO.ite ?_ ?_)
      | (with_reducible refine LeO.bind ?_ (fun _ => ?_))
      | exact ih0 _ _ _ _
      | exact LeO.none _
      | refine LeO.ite ?_ ?_
      | refine LeO.bind ?_ (fun _ => ?_)
set_option maxHeartbeats 8000000 in
set_option maxRecDepth 100000 in
theorem cmp_Or_int.calls (k : Nat) (A0 : Option Addr) (c0 : Nat) (l0 : List Int) (r : Int) (w : World) (hr0 : Kd.C (Kd.int .i64) w A0 l0.length l0) (hc0 : l0.length ≤ c0) (h : cmp_Or_int.f k l0 = some r) :
    Calls Try.prog 80 #[.slice A0 l0.length c0] w fun e w' => e = .returned (.int .i64 r) ∧ Drawn0 w w' := by
  have HR0 := Aside0.mk hr0
  have HC0 := Aside0.mk hc0
  clear hr0 hc0
  have H : (cmp_Or_int.l0 k 0 l0 (l0.length : Int) 0) = some r := h
  clear h
  have H' := Aside0.mk H
  clear H
  go_enter Try.func80, Try.ntmps80
  go_wp2
  (try simp only [Act.put, List.setIfInBounds_toArray, List.set_cons_zero, List.set_cons_succ])
  go_loopg [8] k (fun kq v8 w' => ∃ (x8_1 : Int), v8 = .int .i64 x8_1 ∧ Aside0 (cmp_Or_int.l0 kq 0 l0 (l0.length : Int) x8_1 = some r) ∧ Aside0 (kq ≤ k) ∧ Drawn0 w w')
  case atStart => exact ⟨(0), (by first | rfl | (simp; done) | (simp [*]; done)), H', ⟨Nat.le_refl _⟩, by repeat (first | exact Drawn0.refl _ | apply Drawn0.step)⟩
  case round =>
    clear H'
    obtain ⟨x8_1, rfl, HA, HK1, ⟨m1, rfl⟩⟩ := hrel
    cases gk with
    | zero => exact absurd HA.out (by simp [cmp_Or_int.l0])
    | succ k1 =>
      have H := HA.out
      clear HA
      simp only [cmp_Or_int.l0] at H
      by_cases c2 : x8_1 < (l0.length : Int)
      · rw [if_pos c2] at H
        have c2b0 : decide (x8_1 < (l0.length : Int)) = true := decide_eq_true c2
        clear c2
        by_cases c3 : 0 ≤ x8_1
        · rw [if_pos c3] at H
          have c3b0 : decide (0 ≤ x8_1) = true := decide_eq_true c3
          clear c3
          by_cases c4 : x8_1 < (l0.length : Int)
          · rw [if_pos c4] at H
            have c4b0 : decide (x8_1 < (l0.length : Int)) = true := decide_eq_true c4
            clear c4
            by_cases c5 : (rd l0 x8_1) = 0
            · rw [if_pos c5] at H
              have c5b0 : ((rd l0 x8_1) == 0) = true := beq_iff_eq.mpr c5
              have c5b1 : ((rd l0 x8_1) != 0) = false := bne_eq_false_iff_eq.mpr c5
              clear c5
              have H' := Aside0.mk H
              clear H
              have p117 : 0 ≤ (x8_1 : Int) := of_decide_eq_true (by first | (with_reducible assumption) | assumption)
              have q117 : x8_1 < (l0.length : Int) := of_decide_eq_true (by first | (with_reducible assumption) | assumption)
              obtain ⟨ad117, e117, hx117_0⟩ := Kd.at_int HR0.out x8_1 p117 q117
              cases e117
              replace p117 := eq_true p117
              replace q117 := eq_true q117
              go_wp2
              go_roundg k1
              case measure => have := HK1.out; omega
              case rel => exact ⟨(wrap64 (x8_1 + 1)), (by first | rfl | (simp; done) | (simp [*]; done)), H', ⟨by have := HK1.out; omega⟩, by repeat (first | exact Drawn0.refl _ | apply Drawn0.step)⟩
            · rw [if_neg c5] at H
              have c5b0 : ((rd l0 x8_1) == 0) = false := beq_eq_false_iff_ne.mpr c5
              have c5b1 : ((rd l0 x8_1) != 0) = true := bne_iff_ne.mpr c5
              obtain rfl := Option.some.inj H
              have p117 : 0 ≤ (x8_1 : Int) := of_decide_eq_true (by first | (with_reducible assumption) | assumption)
              have q117 : x8_1 < (l0.length : Int) := of_decide_eq_true (by first | (with_reducible assumption) | assumption)
              obtain ⟨ad117, e117, hx117_0⟩ := Kd.at_int HR0.out x8_1 p117 q117
              cases e117
              replace p117 := eq_true p117
              replace q117 := eq_true q117
              go_wp2
              go_ret
              exact ⟨by first | rfl | (simp; done) | (simp [*]; done), by repeat (first | exact Drawn0.refl _ | apply Drawn0.step)⟩
          · rw [if_neg c4] at H
            exact absurd H (by simp)
        · rw [if_neg c3] at H
          exact absurd H (by simp)
      · rw [if_neg c2] at H
        have c2b0 : decide (x8_1 < (l0.length : Int)) = false := decide_eq_false c2
        clear c2
        obtain rfl := Option.some.inj H
        go_wp2
        go_ret
        exact ⟨by first | rfl | (simp; done) | (simp [*]; done), by repeat (first | exact Drawn0.refl _ | apply Drawn0.step)⟩
end Go.Proofs.Ytgipepjpkmlmaaa.P
namespace Go.Proofs.Ytgipepjpkmlmaaa.P
open Go.RowKit Go.Proofs.YtgipepjpkmlmaaaW.PrintWords Go.Proofs.YtgipepjpkmlmaaaW.PrintLast Go.Proofs.YtgipepjpkmlmaaaW.PrintMore
attribute [local go_sem] max2_int min2_int max_two min_two max_three min_three max_four min_four   -- for this text's walks alone
set_option linter.unusedVariables false
set_option linter.unusedSimpArgs false
def cmp_isNaN_int.f (a0 : Int) : Option (Bool) := some (a0 != a0)
set_option maxHeartbeats 8000000 in
set_option maxRecDepth 100000 in
theorem cmp_isNaN_int.calls (a0 : Int) (r : Bool) (w : World) (h : cmp_isNaN_int.f a0 = some r) :
    Calls Try.prog 93 #[.int .i64 a0] w fun e w' => e = .returned (.bool r) ∧ Drawn0 w w' := by
  have H : (some (a0 != a0)) = some r := h
  clear h
  obtain rfl := Option.some.inj H
  go_enter Try.func93, Try.ntmps93
  go_wp2
  go_ret
  exact ⟨by first | rfl | (simp; done) | (simp [*]; done), by repeat (first | exact Drawn0.refl _ | apply Drawn0.step)⟩
end Go.Proofs.Ytgipepjpkmlmaaa.P
namespace Go.Proofs.Ytgipepjpkmlmaaa.P
open Go.RowKit Go.Proofs.YtgipepjpkmlmaaaW.PrintWords Go.Proofs.YtgipepjpkmlmaaaW.PrintLast Go.Proofs.YtgipepjpkmlmaaaW.PrintMore
attribute [local go_sem] max2_int min2_int max_two min_two max_three min_three max_four min_four   -- for this text's walks alone
set_option linter.unusedVariables false
set_option linter.unusedSimpArgs false
def cmp_Compare_int.f (a0 : Int) (a1 : Int) : Option (Int) := (cmp_isNaN_int.f a0).bind fun t118 => ((cmp_isNaN_int.f a1).bind fun t119 => (if t118 = true then (if t119 = true then (some 0) else (some (-1))) else (if t119 = true then (some 1) else (if a0 < a1 then (some (-1)) else (if a0 > a1 then (some 1) else (some 0))))))
set_option maxHeartbeats 8000000 in
set_option maxRecDepth 100000 in
theorem cmp_Compare_int.calls (a0 : Int) (a1 : Int) (r : Int) (w : World) (h : cmp_Compare_int.f a0 a1 = some r) :
    Calls Try.prog 81 #[.int .i64 a0, .int .i64 a1] w fun e w' => e = .returned (.int .i64 r) ∧ Drawn0 w w' := by
  have H : ((cmp_isNaN_int.f a0).bind fun t118 => ((cmp_isNaN_int.f a1).bind fun t119 => (if t118 = true then (if t119 = true then (some 0) else (some (-1))) else (if t119 = true then (some 1) else (if a0 < a1 then (some (-1)) else (if a0 > a1 then (some 1) else (some 0))))))) = some r := h
  clear h
  replace H := Option.bind_eq_some_iff.mp H
  obtain ⟨t118, A30, H⟩ := H
  replace H : ((cmp_isNaN_int.f a1).bind fun t119 => (if t118 = true then (if t119 = true then (some 0) else (some (-1))) else (if t119 = true then (some 1) else (if a0 < a1 then (some (-1)) else (if a0 > a1 then (some 1) else (some 0)))))) = some r := H
  have A3 := Aside0.mk A30
  clear A30
  replace H := Option.bind_eq_some_iff.mp H
  obtain ⟨t119, A40, H⟩ := H
  replace H : (if t118 = true then (if t119 = true then (some 0) else (some (-1))) else (if t119 = true then (some 1) else (if a0 < a1 then (some (-1)) else (if a0 > a1 then (some 1) else (some 0))))) = some r := H
  have A4 := Aside0.mk A40
  clear A40
  by_cases c5 : t118 = true
  · subst c5
    have H1 : (if t119 = true then (some 0) else (some (-1))) = some r := by rw [if_pos rfl] at H; exact H
    clear H
    have H := H1
    clear H1
    by_cases c6 : t119 = true
    · subst c6
      have H1 : (some 0) = some r := by rw [if_pos rfl] at H; exact H
      clear H
      have H := H1
      clear H1
      obtain rfl := Option.some.inj H
      go_enter Try.func81, Try.ntmps81
      go_wp2_with (first | ((with_reducible refine gate_callee (f := 93) rfl ?_); refine goesL_ (some 8) rfl rfl Try.func93 (by kernel_rfl) rfl #[.int .i64 a0] rfl (by (try simp only [List.map_toArray, List.map_cons, List.map_nil]); first | done | rfl | (simp only [List.length_drop, List.length_take]; rfl)) ?_; (with_reducible refine (cmp_isNaN_int.calls a0 true _ A3.out).mono ?_); rintro e w' ⟨rfl, ⟨nd, rfl⟩⟩; refine ⟨_, rfl, ?_⟩) | ((with_reducible refine gate_callee (f := 93) rfl ?_); refine goesL_ (some 10) rfl rfl Try.func93 (by kernel_rfl) rfl #[.int .i64 a1] rfl (by (try simp only [List.map_toArray, List.map_cons, List.map_nil]); first | done | rfl | (simp only [List.length_drop, List.length_take]; rfl)) ?_; (with_reducible refine (cmp_isNaN_int.calls a1 true _ A4.out).mono ?_); rintro e w' ⟨rfl, ⟨nd, rfl⟩⟩; refine ⟨_, rfl, ?_⟩))
      go_ret
      exact ⟨by first | rfl | (simp; done) | (simp [*]; done), by repeat (first | exact Drawn0.refl _ | apply Drawn0.step)⟩
    · replace c6 := Bool.eq_false_iff.mpr c6
      subst c6
      have H1 : (some (-1)) = some r := by rw [if_neg (show ¬ (false = true) by decide)] at H; exact H
      clear H
      have H := H1
      clear H1
      obtain rfl := Option.some.inj H
      go_enter Try.func81, Try.ntmps81
      go_wp2_with (first | ((with_reducible refine gate_callee (f := 93) rfl ?_); refine goesL_ (some 8) rfl rfl Try.func93 (by kernel_rfl) rfl #[.int .i64 a0] rfl (by (try simp only [List.map_toArray, List.map_cons, List.map_nil]); first | done | rfl | (simp only [List.length_drop, List.length_take]; rfl)) ?_; (with_reducible refine (cmp_isNaN_int.calls a0 true _ A3.out).mono ?_); rintro e w' ⟨rfl, ⟨nd, rfl⟩⟩; refine ⟨_, rfl, ?_⟩) | ((with_reducible refine gate_callee (f := 93) rfl ?_); refine goesL_ (some 10) rfl rfl Try.func93 (by kernel_rfl) rfl #[.int .i64 a1] rfl (by (try simp only [List.map_toArray, List.map_cons, List.map_nil]); first | done | rfl | (simp only [List.length_drop, List.length_take]; rfl)) ?_; (with_reducible refine (cmp_isNaN_int.calls a1 false _ A4.out).mono ?_); rintro e w' ⟨rfl, ⟨nd, rfl⟩⟩; refine ⟨_, rfl, ?_⟩))
      go_ret
      exact ⟨by first | rfl | (simp; done) | (simp [*]; done), by repeat (first | exact Drawn0.refl _ | apply Drawn0.step)⟩
  · replace c5 := Bool.eq_false_iff.mpr c5
    subst c5
    have H1 : (if t119 = true then (some 1) else (if a0 < a1 then (some (-1)) else (if a0 > a1 then (some 1) else (some 0)))) = some r := by rw [if_neg (show ¬ (false = true) by decide)] at H; exact H
    clear H
    have H := H1
    clear H1
    by_cases c7 : t119 = true
    · subst c7
      have H1 : (some 1) = some r := by rw [if_pos rfl] at H; exact H
      clear H
      have H := H1
      clear H1
      obtain rfl := Option.some.inj H
      go_enter Try.func81, Try.ntmps81
      go_wp2_with (first | ((with_reducible refine gate_callee (f := 93) rfl ?_); refine goesL_ (some 8) rfl rfl Try.func93 (by kernel_rfl) rfl #[.int .i64 a0] rfl (by (try simp only [List.map_toArray, List.map_cons, List.map_nil]); first | done | rfl | (simp only [List.length_drop, List.length_take]; rfl)) ?_; (with_reducible refine (cmp_isNaN_int.calls a0 false _ A3.out).mono ?_); rintro e w' ⟨rfl, ⟨nd, rfl⟩⟩; refine ⟨_, rfl, ?_⟩) | ((with_reducible refine gate_callee (f := 93) rfl ?_); refine goesL_ (some 10) rfl rfl Try.func93 (by kernel_rfl) rfl #[.int .i64 a1] rfl (by (try simp only [List.map_toArray, List.map_cons, List.map_nil]); first | done | rfl | (simp only [List.length_drop, List.length_take]; rfl)) ?_; (with_reducible refine (cmp_isNaN_int.calls a1 true _ A4.out).mono ?_); rintro e w' ⟨rfl, ⟨nd, rfl⟩⟩; refine ⟨_, rfl, ?_⟩))
      go_ret
      exact ⟨by first | rfl | (simp; done) | (simp [*]; done), by repeat (first | exact Drawn0.refl _ | apply Drawn0.step)⟩
    · replace c7 := Bool.eq_false_iff.mpr c7
      subst c7
      have H1 : (if a0 < a1 then (some (-1)) else (if a0 > a1 then (some 1) else (some 0))) = some r := by rw [if_neg (show ¬ (false = true) by decide)] at H; exact H
      clear H
      have H := H1
      clear H1
      by_cases c8 : a0 < a1
      · rw [if_pos c8] at H
        have c8b0 : decide (a0 < a1) = true := decide_eq_true c8
        clear c8
        obtain rfl := Option.some.inj H
        go_enter Try.func81, Try.ntmps81
        go_wp2_with (first | ((with_reducible refine gate_callee (f := 93) rfl ?_); refine goesL_ (some 8) rfl rfl Try.func93 (by kernel_rfl) rfl #[.int .i64 a0] rfl (by (try simp only [List.map_toArray, List.map_cons, List.map_nil]); first | done | rfl | (simp only [List.length_drop, List.length_take]; rfl)) ?_; (with_reducible refine (cmp_isNaN_int.calls a0 false _ A3.out).mono ?_); rintro e w' ⟨rfl, ⟨nd, rfl⟩⟩; refine ⟨_, rfl, ?_⟩) | ((with_reducible refine gate_callee (f := 93) rfl ?_); refine goesL_ (some 10) rfl rfl Try.func93 (by kernel_rfl) rfl #[.int .i64 a1] rfl (by (try simp only [List.map_toArray, List.map_cons, List.map_nil]); first | done | rfl | (simp only [List.length_drop, List.length_take]; rfl)) ?_; (with_reducible refine (cmp_isNaN_int.calls a1 false _ A4.out).mono ?_); rintro e w' ⟨rfl, ⟨nd, rfl⟩⟩; refine ⟨_, rfl, ?_⟩))
        go_ret
        exact ⟨by first | rfl | (simp; done) | (simp [*]; done), by repeat (first | exact Drawn0.refl _ | apply Drawn0.step)⟩
      · rw [if_neg c8] at H
        have c8b0 : decide (a0 < a1) = false := decide_eq_false c8
        clear c8
        by_cases c9 : a0 > a1
        · rw [if_pos c9] at H
          have c9b0 : decide (a1 < a0) = true := decide_eq_true c9
          clear c9
          obtain rfl := Option.some.inj H
          go_enter Try.func81, Try.ntmps81
          go_wp2_with (first | ((with_reducible refine gate_callee (f := 93) rfl ?_); refine goesL_ (some 8) rfl rfl Try.func93 (by kernel_rfl) rfl #[.int .i64 a0] rfl (by (try simp only [List.map_toArray, List.map_cons, List.map_nil]); first | done | rfl | (simp only [List.length_drop, List.length_take]; rfl)) ?_; (with_reducible refine (cmp_isNaN_int.calls a0 false _ A3.out).mono ?_); rintro e w' ⟨rfl, ⟨nd, rfl⟩⟩; refine ⟨_, rfl, ?_⟩) | ((with_reducible refine gate_callee (f := 93) rfl ?_); refine goesL_ (some 10) rfl rfl Try.func93 (by kernel_rfl) rfl #[.int .i64 a1] rfl (by (try simp only [List.map_toArray, List.map_cons, List.map_nil]); first | done | rfl | (simp only [List.length_drop, List.length_take]; rfl)) ?_; (with_reducible refine (cmp_isNaN_int.calls a1 false _ A4.out).mono ?_); rintro e w' ⟨rfl, ⟨nd, rfl⟩⟩; refine ⟨_, rfl, ?_⟩))
          go_ret
          exact ⟨by first | rfl | (simp; done) | (simp [*]; done), by repeat (first | exact Drawn0.refl _ | apply Drawn0.step)⟩
        · rw [if_neg c9] at H
          have c9b0 : decide (a1 < a0) = false := decide_eq_false c9
          clear c9
          obtain rfl := Option.some.inj H
          go_enter Try.func81, Try.ntmps81
          go_wp2_with (first | ((with_reducible refine gate_callee (f := 93) rfl ?_); refine goesL_ (some 8) rfl rfl Try.func93 (by kernel_rfl) rfl #[.int .i64 a0] rfl (by (try simp only [List.map_toArray, List.map_cons, List.map_nil]); first | done | rfl | (simp only [List.length_drop, List.length_take]; rfl)) ?_; (with_reducible refine (cmp_isNaN_int.calls a0 false _ A3.out).mono ?_); rintro e w' ⟨rfl, ⟨nd, rfl⟩⟩; refine ⟨_, rfl, ?_⟩) | ((with_reducible refine gate_callee (f := 93) rfl ?_); refine goesL_ (some 10) rfl rfl Try.func93 (by kernel_rfl) rfl #[.int .i64 a1] rfl (by (try simp only [List.map_toArray, List.map_cons, List.map_nil]); first | done | rfl | (simp only [List.length_drop, List.length_take]; rfl)) ?_; (with_reducible refine (cmp_isNaN_int.calls a1 false _ A4.out).mono ?_); rintro e w' ⟨rfl, ⟨nd, rfl⟩⟩; refine ⟨_, rfl, ?_⟩))
          go_ret
          exact ⟨by first | rfl | (simp; done) | (simp [*]; done), by repeat (first | exact Drawn0.refl _ | apply Drawn0.step)⟩
end Go.Proofs.Ytgipepjpkmlmaaa.P
namespace Go.Proofs.Ytgipepjpkmlmaaa.P
open Go.RowKit Go.Proofs.YtgipepjpkmlmaaaW.PrintWords Go.Proofs.YtgipepjpkmlmaaaW.PrintLast Go.Proofs.YtgipepjpkmlmaaaW.PrintMore
attribute [local go_sem] max2_int min2_int max_two min_two max_three min_three max_four min_four   -- for this text's walks alone
set_option linter.unusedVariables false
set_option linter.unusedSimpArgs false
def engine_order.f (k : Nat) (a0_0 : Int) (a0_1 : Int) (a0_2 : Int) (a0_3 : Int) (a0_4 : Int) (a0_5 : Int) (a0_6 : Int) (a0_7 : Int) (a0_8 : Int) (a0_9 : Int) (a0_10 : Int) (a0_11 : Int) (a1_0 : Int) (a1_1 : Int) (a1_2 : Int) (a1_3 : Int) (a1_4 : Int) (a1_5 : Int) (a1_6 : Int) (a1_7 : Int) (a1_8 : Int) (a1_9 : Int) (a1_10 : Int) (a1_11 : Int) : Option (Int) := (cmp_Compare_int.f a0_1 a1_1).bind fun t122 => ((cmp_Compare_int.f a0_0 a1_0).bind fun t123 => ((cmp_Or_int.f k (([t122, t123] : List Int))).bind fun t127 => (some t127)))
theorem engine_order.mono : ∀ a0 a1 a2 a3 a4 a5 a6 a7 a8 a9 a10 a11 a12 a13 a14 a15 a16 a17 a18 a19 a20 a21 a22 a23 k, LeO (engine_order.f k a0 a1 a2 a3 a4 a5 a6 a7 a8 a9 a10 a11 a12 a13 a14 a15 a16 a17 a18 a19 a20 a21 a22 a23) (engine_order.f (k + 1) a0 a1 a2 a3 a4 a5 a6 a7 a8 a9 a10 a11 a12 a13 a14 a15 a16 a17 a18 a19 a20 a21 a22 a23) := by
  intro a0 a1 a2 a3 a4 a5 a6 a7 a8 a9 a10 a11 a12 a13 a14 a15 a16 a17 a18 a19 a20 a21 a22 a23 k
  unfold engine_order.f
  repeat' first
      | (with_reducible exact cmp_Or_int.mono _ _)
      | (with_reducible exact LeO.refl _)
      | (with_reducible exact LeO.none _)
      | (with_reducible refine LeO.ite ?_ ?_)
      | (with_reducible refine LeO.bind ?_ (fun _ => ?_))
      | exact cmp_Or_int.mono _ _
      | exact LeO.none _
      | refine LeO.ite ?_ ?_
      | refine LeO.bind ?_ (fun _ => ?_)
def engine_order.T1 : Bool × List (List Nat × List Nat) := (true, [([], []), ([0], [0]), ([], []), ([2], [2]), ([1, 3], [1, 3]), ([], []), ([5], [5]), ([], []), ([7], [7]), ([6, 8, 4], [6, 8]), ([4, 9], [4, 9]), ([10, 9], [10]), ([11, 11, 0, 1, 2, 3, 4, 5, 6, 7, 8, 9, 10, 11], [11])])
def engine_order.B1 : List Nat := [0, 1, 0, 4, 15, 0, 32, 0, 128, 511, 1023, 2047, 4095]
theorem engine_order.tab1 : rtab .any (opsOf Try.f48 1) = engine_order.T1 := by kernel_rfl
theorem engine_order.bits1 : waitsOk engine_order.T1.2 engine_order.B1 = true := by kernel_rfl
set_option maxHeartbeats 8000000 in
set_option maxRecDepth 100000 in
theorem engine_order.calls (k : Nat) (a0_0 : Int) (a0_1 : Int) (a0_2 : Int) (a0_3 : Int) (a0_4 : Int) (a0_5 : Int) (a0_6 : Int) (a0_7 : Int) (a0_8 : Int) (a0_9 : Int) (a0_10 : Int) (a0_11 : Int) (a1_0 : Int) (a1_1 : Int) (a1_2 : Int) (a1_3 : Int) (a1_4 : Int) (a1_5 : Int) (a1_6 : Int) (a1_7 : Int) (a1_8 : Int) (a1_9 : Int) (a1_10 : Int) (a1_11 : Int) (r : Int) (w : World) (h : engine_order.f k a0_0 a0_1 a0_2 a0_3 a0_4 a0_5 a0_6 a0_7 a0_8 a0_9 a0_10 a0_11 a1_0 a1_1 a1_2 a1_3 a1_4 a1_5 a1_6 a1_7 a1_8 a1_9 a1_10 a1_11 = some r) :
    Calls Try.prog 48 #[.agg #[.int .i64 a0_0, .int .i64 a0_1, .int .i64 a0_2, .int .i64 a0_3, .int .i64 a0_4, .int .i64 a0_5, .int .i64 a0_6, .int .i64 a0_7, .int .i64 a0_8, .int .i64 a0_9, .int .i64 a0_10, .int .i64 a0_11], .agg #[.int .i64 a1_0, .int .i64 a1_1, .int .i64 a1_2, .int .i64 a1_3, .int .i64 a1_4, .int .i64 a1_5, .int .i64 a1_6, .int .i64 a1_7, .int .i64 a1_8, .int .i64 a1_9, .int .i64 a1_10, .int .i64 a1_11]] w fun e w' => e = .returned (.int .i64 r) ∧ Below w.heap.size w w' := by
  have hu46 := Try.underlying46
  have HB := Aside0.mk (Below.refl w.heap.size w)
  have H : ((cmp_Compare_int.f a0_1 a1_1).bind fun t122 => ((cmp_Compare_int.f a0_0 a1_0).bind fun t123 => ((cmp_Or_int.f k (([t122, t123] : List Int))).bind fun t127 => (some t127)))) = some r := h
  clear h
  replace H := Option.bind_eq_some_iff.mp H
  obtain ⟨t122, A30, H⟩ := H
  replace H : ((cmp_Compare_int.f a0_0 a1_0).bind fun t123 => ((cmp_Or_int.f k (([t122, t123] : List Int))).bind fun t127 => (some t127))) = some r := H
  have A3 := Aside0.mk A30
  clear A30
  replace H := Option.bind_eq_some_iff.mp H
  obtain ⟨t123, A40, H⟩ := H
  replace H : ((cmp_Or_int.f k (([t122, t123] : List Int))).bind fun t127 => (some t127)) = some r := H
  have A4 := Aside0.mk A40
  clear A40
  obtain ⟨y124, hy124⟩ : ∃ y_ : List Int, y_ = (([t122, t123] : List Int)) := ⟨_, rfl⟩
  replace H : ((cmp_Or_int.f k y124).bind fun t127 => (some t127)) = some r := by first | (rw [hy124]; with_reducible exact H) | (have H2_ := (Option.bind_some _ _).symm.trans H; rw [hy124]; with_reducible exact H2_) | (have H2_ := (Option.bind_some _ _).symm.trans H; with_reducible exact H2_) | with_reducible exact H | (rw [hy124]; exact H) | exact H
  have Ny124 := Aside0.mk hy124
  clear hy124
  replace H := Option.bind_eq_some_iff.mp H
  obtain ⟨t127, A50, H⟩ := H
  replace H : (some t127) = some r := H
  have A5 := Aside0.mk A50
  clear A50
  obtain rfl := Option.some.inj H
  go_enter Try.func48, Try.ntmps48
  try go_wp2_with (first | ((with_reducible refine gate_dst (N := 2) rfl ?_); refine box_event ?hg (N := 2) ?hd (cs := #[.int .i64 a0_0, .int .i64 a0_1, .int .i64 a0_2, .int .i64 a0_3, .int .i64 a0_4, .int .i64 a0_5, .int .i64 a0_6, .int .i64 a0_7, .int .i64 a0_8, .int .i64 a0_9, .int .i64 a0_10, .int .i64 a0_11]) (t := 46) ?hr ?_; (case hd => rfl); (case hg => rfl); (case hr => first | (go_simp; done) | (go_simp; rfl)); intro gb120 hg w6 hbox hb; have n0_ := Aside0.mk (below_step (by repeat (first | (with_reducible first | exact HB.out | apply below_alloc | apply pw_below_drewN | apply below_drew1) | exact HB.out)) hb); have n1_ := Aside0.mk (hbox); have n2_ := Aside0.mk ((by rw [hg]; exact (below_size (by repeat (first | (with_reducible first | exact HB.out | apply below_alloc | apply pw_below_drewN | apply below_drew1) | exact HB.out))) : w.heap.size ≤ gb120)); have n3_ := Aside0.mk ((by rw [hg]; exact (below_size (by repeat (first | (with_reducible first | exact HB.out | apply below_alloc | apply pw_below_drewN | apply below_drew1) | exact HB.out))) : w.heap.size ≤ gb120)); clear HB; have HB := n0_; have BK120 := n1_; have GW120 := n2_; have GE120 := n3_; clear n0_ n1_ n2_ n3_; clear hb hbox hg) | ((with_reducible refine gate_dst (N := 3) rfl ?_); refine box_event ?hg (N := 3) ?hd (cs := #[.int .i64 a1_0, .int .i64 a1_1, .int .i64 a1_2, .int .i64 a1_3, .int .i64 a1_4, .int .i64 a1_5, .int .i64 a1_6, .int .i64 a1_7, .int .i64 a1_8, .int .i64 a1_9, .int .i64 a1_10, .int .i64 a1_11]) (t := 46) ?hr ?_; (case hd => rfl); (case hg => rfl); (case hr => first | (go_simp; done) | (go_simp; rfl)); intro gb121 hg w7 hbox hb; have n0_ := Aside0.mk (blk_below (g := gb120) (o := .cells #[.int .i64 a0_0, .int .i64 a0_1, .int .i64 a0_2, .int .i64 a0_3, .int .i64 a0_4, .int .i64 a0_5, .int .i64 a0_6, .int .i64 a0_7, .int .i64 a0_8, .int .i64 a0_9, .int .i64 a0_10, .int .i64 a0_11] 46 (0, 0)) (by (with_reducible repeat (first | refine blk_drewN ?_ _ | refine blk_drew ?_ | refine blk_alloc ?_ _)); exact BK120.out) hb); have n1_ := Aside0.mk (below_step (by repeat (first | (with_reducible first | exact HB.out | apply below_alloc | apply pw_below_drewN | apply below_drew1 | refine below_set ?_ GE120.out) | exact HB.out)) hb); have n2_ := Aside0.mk (hbox); have n3_ := Aside0.mk ((by rw [hg]; exact (below_size (by repeat (first | (with_reducible first | exact HB.out | apply below_alloc | apply pw_below_drewN | apply below_drew1 | refine below_set ?_ GE120.out) | exact HB.out))) : w.heap.size ≤ gb121)); have n4_ := Aside0.mk ((by rw [hg]; exact (below_size (by repeat (first | (with_reducible first | exact HB.out | apply below_alloc | apply pw_below_drewN | apply below_drew1 | refine below_set ?_ GE120.out) | exact HB.out))) : w.heap.size ≤ gb121)); have n5_ := Aside0.mk ((by rw [hg]; exact Nat.ne_of_lt (blk_lt (g := gb120) (o := .cells #[.int .i64 a0_0, .int .i64 a0_1, .int .i64 a0_2, .int .i64 a0_3, .int .i64 a0_4, .int .i64 a0_5, .int .i64 a0_6, .int .i64 a0_7, .int .i64 a0_8, .int .i64 a0_9, .int .i64 a0_10, .int .i64 a0_11] 46 (0, 0)) (by (with_reducible repeat (first | refine blk_drewN ?_ _ | refine blk_drew ?_ | refine blk_alloc ?_ _)); exact BK120.out)) : gb120 ≠ gb121)); have n6_ := Aside0.mk ((by rw [hg]; exact Nat.ne_of_gt (blk_lt (g := gb120) (o := .cells #[.int .i64 a0_0, .int .i64 a0_1, .int .i64 a0_2, .int .i64 a0_3, .int .i64 a0_4, .int .i64 a0_5, .int .i64 a0_6, .int .i64 a0_7, .int .i64 a0_8, .int .i64 a0_9, .int .i64 a0_10, .int .i64 a0_11] 46 (0, 0)) (by (with_reducible repeat (first | refine blk_drewN ?_ _ | refine blk_drew ?_ | refine blk_alloc ?_ _)); exact BK120.out)) : gb121 ≠ gb120)); clear BK120; clear HB; have BK120 := n0_; have HB := n1_; have BK121 := n2_; have GW121 := n3_; have GE121 := n4_; have NB120_121 := n5_; have NB121_120 := n6_; clear n0_ n1_ n2_ n3_ n4_ n5_ n6_; clear hb hbox hg))
  have n0_ := Aside0.mk (blk_drew BK120.out)
  have n1_ := Aside0.mk (blk_drew BK121.out)
  have n2_ := Aside0.mk (below_drew1 HB.out)
  clear BK120
  clear BK121
  clear HB
  have BK120 := n0_
  have BK121 := n1_
  have HB := n2_
  clear n0_ n1_ n2_
  refine start_ (n := 13) (S := fun w' => w'.cell? ⟨gb120, 0, none⟩ = some (.int .i64 a0_0) ∧ w'.cell? ⟨gb120, 1, none⟩ = some (.int .i64 a0_1) ∧ w'.cell? ⟨gb120, 2, none⟩ = some (.int .i64 a0_2) ∧ w'.cell? ⟨gb120, 3, none⟩ = some (.int .i64 a0_3) ∧ w'.cell? ⟨gb120, 4, none⟩ = some (.int .i64 a0_4) ∧ w'.cell? ⟨gb120, 5, none⟩ = some (.int .i64 a0_5) ∧ w'.cell? ⟨gb120, 6, none⟩ = some (.int .i64 a0_6) ∧ w'.cell? ⟨gb120, 7, none⟩ = some (.int .i64 a0_7) ∧ w'.cell? ⟨gb120, 8, none⟩ = some (.int .i64 a0_8) ∧ w'.cell? ⟨gb120, 9, none⟩ = some (.int .i64 a0_9) ∧ w'.cell? ⟨gb120, 10, none⟩ = some (.int .i64 a0_10) ∧ w'.cell? ⟨gb120, 11, none⟩ = some (.int .i64 a0_11) ∧ w'.cell? ⟨gb121, 0, none⟩ = some (.int .i64 a1_0) ∧ w'.cell? ⟨gb121, 1, none⟩ = some (.int .i64 a1_1) ∧ w'.cell? ⟨gb121, 2, none⟩ = some (.int .i64 a1_2) ∧ w'.cell? ⟨gb121, 3, none⟩ = some (.int .i64 a1_3) ∧ w'.cell? ⟨gb121, 4, none⟩ = some (.int .i64 a1_4) ∧ w'.cell? ⟨gb121, 5, none⟩ = some (.int .i64 a1_5) ∧ w'.cell? ⟨gb121, 6, none⟩ = some (.int .i64 a1_6) ∧ w'.cell? ⟨gb121, 7, none⟩ = some (.int .i64 a1_7) ∧ w'.cell? ⟨gb121, 8, none⟩ = some (.int .i64 a1_8) ∧ w'.cell? ⟨gb121, 9, none⟩ = some (.int .i64 a1_9) ∧ w'.cell? ⟨gb121, 10, none⟩ = some (.int .i64 a1_10) ∧ w'.cell? ⟨gb121, 11, none⟩ = some (.int .i64 a1_11)) (ds := []) #[false, false, false, false, false, false, false, false, false, false, false, false, false] (by kernel_rfl) rfl rfl ⟨(blk_cell BK120.out 0).trans rfl, (blk_cell BK120.out 1).trans rfl, (blk_cell BK120.out 2).trans rfl, (blk_cell BK120.out 3).trans rfl, (blk_cell BK120.out 4).trans rfl, (blk_cell BK120.out 5).trans rfl, (blk_cell BK120.out 6).trans rfl, (blk_cell BK120.out 7).trans rfl, (blk_cell BK120.out 8).trans rfl, (blk_cell BK120.out 9).trans rfl, (blk_cell BK120.out 10).trans rfl, (blk_cell BK120.out 11).trans rfl, (blk_cell BK121.out 0).trans rfl, (blk_cell BK121.out 1).trans rfl, (blk_cell BK121.out 2).trans rfl, (blk_cell BK121.out 3).trans rfl, (blk_cell BK121.out 4).trans rfl, (blk_cell BK121.out 5).trans rfl, (blk_cell BK121.out 6).trans rfl, (blk_cell BK121.out 7).trans rfl, (blk_cell BK121.out 8).trans rfl, (blk_cell BK121.out 9).trans rfl, (blk_cell BK121.out 10).trans rfl, (blk_cell BK121.out 11).trans rfl⟩ (fun hHeld => ?_); refine with_tabW engine_order.tab1 engine_order.bits1 (fun HT_ HW_ => ?_)
  generalize w7.drew = w8 at BK120 BK121 HB hHeld ⊢
  refine pure_ (i := 0) (N := some 5) (v := ?_) (a' := ?_) #[true, false, false, false, false, false, false, false, false, false, false, false, false] rfl rfl (any_of HT_.out (by kernel_rfl)) (fun _ _ _ h => h) (Or.inl ⟨by rfl, ?_⟩) ?_ ?_
  rotate_left
  · intro w'
    go_simp
    with_reducible rfl
  rotate_left
  · simp only [Act.put, List.setIfInBounds_toArray, List.set_cons_zero, List.set_cons_succ, i64_w, i32_w]
    rfl
  refine pure_ (i := 2) (N := some 7) (v := ?_) (a' := ?_) #[true, false, true, false, false, false, false, false, false, false, false, false, false] rfl rfl (any_of HT_.out (by kernel_rfl)) (fun _ _ _ h => h) (Or.inl ⟨by rfl, ?_⟩) ?_ ?_
  rotate_left
  · intro w'
    go_simp
    with_reducible rfl
  rotate_left
  · simp only [Act.put, List.setIfInBounds_toArray, List.set_cons_zero, List.set_cons_succ, i64_w, i32_w]
    rfl
  refine pure_ (i := 5) (N := some 10) (v := ?_) (a' := ?_) #[true, false, true, false, false, true, false, false, false, false, false, false, false] rfl rfl (any_of HT_.out (by kernel_rfl)) (fun _ _ _ h => h) (Or.inl ⟨by rfl, ?_⟩) ?_ ?_
  rotate_left
  · intro w'
    go_simp
    with_reducible rfl
  rotate_left
  · simp only [Act.put, List.setIfInBounds_toArray, List.set_cons_zero, List.set_cons_succ, i64_w, i32_w]
    rfl
  refine pure_ (i := 7) (N := some 12) (v := ?_) (a' := ?_) #[true, false, true, false, false, true, false, true, false, false, false, false, false] rfl rfl (any_of HT_.out (by kernel_rfl)) (fun _ _ _ h => h) (Or.inl ⟨by rfl, ?_⟩) ?_ ?_
  rotate_left
  · intro w'
    go_simp
    with_reducible rfl
  rotate_left
  · simp only [Act.put, List.setIfInBounds_toArray, List.set_cons_zero, List.set_cons_succ, i64_w, i32_w]
    rfl
  refine take_ (i := 1) (N := some 6) (v := ?_) (a' := ?_) #[true, true, true, false, false, true, false, true, false, false, false, false, false] rfl rfl (take_ofW HT_.out HW_.out (by kernel_rfl)) (fun _ _ _ h => h) (Or.inl ⟨by rfl, ?_⟩) hHeld ?_ ?_
  rotate_left
  · rintro w' ⟨s0, s1, s2, s3, s4, s5, s6, s7, s8, s9, s10, s11, s12, s13, s14, s15, s16, s17, s18, s19, s20, s21, s22, s23⟩
    go_simp
    with_reducible rfl
  rotate_left
  · simp only [Act.put, List.setIfInBounds_toArray, List.set_cons_zero, List.set_cons_succ, i64_w, i32_w]
    rfl
  refine take_ (i := 3) (N := some 8) (v := ?_) (a' := ?_) #[true, true, true, true, false, true, false, true, false, false, false, false, false] rfl rfl (take_ofW HT_.out HW_.out (by kernel_rfl)) (fun _ _ _ h => h) (Or.inl ⟨by rfl, ?_⟩) hHeld ?_ ?_
  rotate_left
  · rintro w' ⟨s0, s1, s2, s3, s4, s5, s6, s7, s8, s9, s10, s11, s12, s13, s14, s15, s16, s17, s18, s19, s20, s21, s22, s23⟩
    go_simp
    with_reducible rfl
  rotate_left
  · simp only [Act.put, List.setIfInBounds_toArray, List.set_cons_zero, List.set_cons_succ, i64_w, i32_w]
    rfl
  refine take_ (i := 6) (N := some 11) (v := ?_) (a' := ?_) #[true, true, true, true, false, true, true, true, false, false, false, false, false] rfl rfl (take_ofW HT_.out HW_.out (by kernel_rfl)) (fun _ _ _ h => h) (Or.inl ⟨by rfl, ?_⟩) hHeld ?_ ?_
  rotate_left
  · rintro w' ⟨s0, s1, s2, s3, s4, s5, s6, s7, s8, s9, s10, s11, s12, s13, s14, s15, s16, s17, s18, s19, s20, s21, s22, s23⟩
    go_simp
    with_reducible rfl
  rotate_left
  · simp only [Act.put, List.setIfInBounds_toArray, List.set_cons_zero, List.set_cons_succ, i64_w, i32_w]
    rfl
  refine take_ (i := 8) (N := some 13) (v := ?_) (a' := ?_) #[true, true, true, true, false, true, true, true, true, false, false, false, false] rfl rfl (take_ofW HT_.out HW_.out (by kernel_rfl)) (fun _ _ _ h => h) (Or.inl ⟨by rfl, ?_⟩) hHeld ?_ ?_
  rotate_left
  · rintro w' ⟨s0, s1, s2, s3, s4, s5, s6, s7, s8, s9, s10, s11, s12, s13, s14, s15, s16, s17, s18, s19, s20, s21, s22, s23⟩
    go_simp
    with_reducible rfl
  rotate_left
  · simp only [Act.put, List.setIfInBounds_toArray, List.set_cons_zero, List.set_cons_succ, i64_w, i32_w]
    rfl
  refine one_ (i := 4) (N := some 9) #[true, true, true, true, true, true, true, true, true, false, false, false, false] rfl rfl (one_of HT_.out (by kernel_rfl)) (by decide) (fun K hK => ?_)
  refine goes_ Try.func81 (by kernel_rfl) rfl #[.int .i64 a0_1, .int .i64 a1_1] (by rfl) rfl rfl (by (try simp only [List.map_toArray, List.map_cons, List.map_nil]); first | done | rfl | (simp only [List.length_drop, List.length_take]; rfl)) ?_
  with_reducible refine (cmp_Compare_int.calls a0_1 a1_1 t122 _ A3.out).mono ?_
  rintro e w' ⟨rfl, ⟨nd, rfl⟩⟩
  refine ⟨_, rfl, ?_⟩
  refine hK.out _ _ ⟨(blk_cell BK120.out 0).trans rfl, (blk_cell BK120.out 1).trans rfl, (blk_cell BK120.out 2).trans rfl, (blk_cell BK120.out 3).trans rfl, (blk_cell BK120.out 4).trans rfl, (blk_cell BK120.out 5).trans rfl, (blk_cell BK120.out 6).trans rfl, (blk_cell BK120.out 7).trans rfl, (blk_cell BK120.out 8).trans rfl, (blk_cell BK120.out 9).trans rfl, (blk_cell BK120.out 10).trans rfl, (blk_cell BK120.out 11).trans rfl, (blk_cell BK121.out 0).trans rfl, (blk_cell BK121.out 1).trans rfl, (blk_cell BK121.out 2).trans rfl, (blk_cell BK121.out 3).trans rfl, (blk_cell BK121.out 4).trans rfl, (blk_cell BK121.out 5).trans rfl, (blk_cell BK121.out 6).trans rfl, (blk_cell BK121.out 7).trans rfl, (blk_cell BK121.out 8).trans rfl, (blk_cell BK121.out 9).trans rfl, (blk_cell BK121.out 10).trans rfl, (blk_cell BK121.out 11).trans rfl⟩ (fun hHeld => ?_)
  clear hK K
  refine norm_ (a' := ?_) ?_ ?_
  rotate_left
  · show Act.put _ (some 9) _ = _
    simp only [Act.put, List.setIfInBounds_toArray, List.set_cons_zero, List.set_cons_succ, i64_w, i32_w]
    rfl
  refine one_ (i := 9) (N := some 14) #[true, true, true, true, true, true, true, true, true, true, false, false, false] rfl rfl (one_of HT_.out (by kernel_rfl)) (by decide) (fun K hK => ?_)
  refine goes_ Try.func81 (by kernel_rfl) rfl #[.int .i64 a0_0, .int .i64 a1_0] (by rfl) rfl rfl (by (try simp only [List.map_toArray, List.map_cons, List.map_nil]); first | done | rfl | (simp only [List.length_drop, List.length_take]; rfl)) ?_
  with_reducible refine (cmp_Compare_int.calls a0_0 a1_0 t123 _ A4.out).mono ?_
  rintro e w' ⟨rfl, ⟨nd, rfl⟩⟩
  refine ⟨_, rfl, ?_⟩
  refine hK.out _ _ ⟨(blk_cell BK120.out 0).trans rfl, (blk_cell BK120.out 1).trans rfl, (blk_cell BK120.out 2).trans rfl, (blk_cell BK120.out 3).trans rfl, (blk_cell BK120.out 4).trans rfl, (blk_cell BK120.out 5).trans rfl, (blk_cell BK120.out 6).trans rfl, (blk_cell BK120.out 7).trans rfl, (blk_cell BK120.out 8).trans rfl, (blk_cell BK120.out 9).trans rfl, (blk_cell BK120.out 10).trans rfl, (blk_cell BK120.out 11).trans rfl, (blk_cell BK121.out 0).trans rfl, (blk_cell BK121.out 1).trans rfl, (blk_cell BK121.out 2).trans rfl, (blk_cell BK121.out 3).trans rfl, (blk_cell BK121.out 4).trans rfl, (blk_cell BK121.out 5).trans rfl, (blk_cell BK121.out 6).trans rfl, (blk_cell BK121.out 7).trans rfl, (blk_cell BK121.out 8).trans rfl, (blk_cell BK121.out 9).trans rfl, (blk_cell BK121.out 10).trans rfl, (blk_cell BK121.out 11).trans rfl⟩ (fun hHeld => ?_)
  clear hK K
  refine norm_ (a' := ?_) ?_ ?_
  rotate_left
  · show Act.put _ (some 14) _ = _
    simp only [Act.put, List.setIfInBounds_toArray, List.set_cons_zero, List.set_cons_succ, i64_w, i32_w]
    rfl
  refine one_ (i := 10) (N := some 15) #[true, true, true, true, true, true, true, true, true, true, true, false, false] rfl rfl (one_of HT_.out (by kernel_rfl)) (by decide) (fun K hK => ?_)
  refine Kd.R_lit_step (Kd.int .i64) _ 3 ?hg (N := 15) ?hd (xs := ([t122, t123] : List Int)) (inner := [.int .i64 t122, .int .i64 t123]) (ok := fun _ => True) (okp := fun _ => True) ?hr ?hp (fun _ hk => hk) trivial (Below.refl _ _) (Nat.le_refl _) (by simp) ?_; (case hd => rfl); (case hg => rfl); (case hr => first | (go_simp; done) | (go_simp; rfl)); (case hp => exact (Reps.one (show Kd.M (Kd.int .i64) _ _ _ t122 [.int .i64 t122] from rfl) (Reps.one (show Kd.M (Kd.int .i64) _ _ _ t123 [.int .i64 t123] from rfl) (Reps.none _ _))))
  intro v125 w9 ho10 hb hg_ hnew_
  clear hg_ hnew_
  (first | rw [← Ny124.out] at ho10 | (simp only [Int.reduceToNat] at ho10; rw [← Ny124.out] at ho10))
  have n0_ := Aside0.mk (Kd.R_lower ho10 (below_size (by repeat (first | (with_reducible first | exact HB.out | apply below_alloc | apply pw_below_drewN | apply below_drew1 | refine below_set ?_ GE120.out | refine below_set ?_ GE121.out) | exact HB.out))))
  have n1_ := Aside0.mk (blk_below (g := gb120) (o := .cells #[.int .i64 a0_0, .int .i64 a0_1, .int .i64 a0_2, .int .i64 a0_3, .int .i64 a0_4, .int .i64 a0_5, .int .i64 a0_6, .int .i64 a0_7, .int .i64 a0_8, .int .i64 a0_9, .int .i64 a0_10, .int .i64 a0_11] 46 (0, 0)) (by (with_reducible repeat (first | refine blk_drewN ?_ _ | refine blk_drew ?_ | refine blk_alloc ?_ _)); exact BK120.out) hb)
  have n2_ := Aside0.mk (blk_below (g := gb121) (o := .cells #[.int .i64 a1_0, .int .i64 a1_1, .int .i64 a1_2, .int .i64 a1_3, .int .i64 a1_4, .int .i64 a1_5, .int .i64 a1_6, .int .i64 a1_7, .int .i64 a1_8, .int .i64 a1_9, .int .i64 a1_10, .int .i64 a1_11] 46 (0, 0)) (by (with_reducible repeat (first | refine blk_drewN ?_ _ | refine blk_drew ?_ | refine blk_alloc ?_ _)); exact BK121.out) hb)
  have n3_ := Aside0.mk (below_step (by repeat (first | (with_reducible first | exact HB.out | apply below_alloc | apply pw_below_drewN | apply below_drew1 | refine below_set ?_ GE120.out | refine below_set ?_ GE121.out) | exact HB.out)) hb)
  clear BK120
  clear BK121
  clear HB
  have HO126 := n0_
  have BK120 := n1_
  have BK121 := n2_
  have HB := n3_
  clear n0_ n1_ n2_ n3_
  clear hb ho10
  obtain ⟨Ao11, co11, eo11⟩ := Kd.R_slice HO126.out
  (first | subst eo11 | (injection eo11 with f1_ f2_ f3_; have f4_ := f1_.symm; have f5_ := f3_.symm; clear f1_ f2_ f3_; subst f4_; subst f5_))
  refine hK.out _ _ ⟨(blk_cell BK120.out 0).trans rfl, (blk_cell BK120.out 1).trans rfl, (blk_cell BK120.out 2).trans rfl, (blk_cell BK120.out 3).trans rfl, (blk_cell BK120.out 4).trans rfl, (blk_cell BK120.out 5).trans rfl, (blk_cell BK120.out 6).trans rfl, (blk_cell BK120.out 7).trans rfl, (blk_cell BK120.out 8).trans rfl, (blk_cell BK120.out 9).trans rfl, (blk_cell BK120.out 10).trans rfl, (blk_cell BK120.out 11).trans rfl, (blk_cell BK121.out 0).trans rfl, (blk_cell BK121.out 1).trans rfl, (blk_cell BK121.out 2).trans rfl, (blk_cell BK121.out 3).trans rfl, (blk_cell BK121.out 4).trans rfl, (blk_cell BK121.out 5).trans rfl, (blk_cell BK121.out 6).trans rfl, (blk_cell BK121.out 7).trans rfl, (blk_cell BK121.out 8).trans rfl, (blk_cell BK121.out 9).trans rfl, (blk_cell BK121.out 10).trans rfl, (blk_cell BK121.out 11).trans rfl⟩ (fun hHeld => ?_)
  clear hK K
  refine norm_ (a' := ?_) ?_ ?_
  rotate_left
  · show Act.put _ (some 15) _ = _
    simp only [Act.put, List.setIfInBounds_toArray, List.set_cons_zero, List.set_cons_succ, i64_w, i32_w]
    rfl
  refine one_ (i := 11) (N := some 16) #[true, true, true, true, true, true, true, true, true, true, true, true, false] rfl rfl (one_of HT_.out (by kernel_rfl)) (by decide) (fun K hK => ?_)
  refine goes_ Try.func80 (by kernel_rfl) rfl #[.slice Ao11 y124.length co11] (by rfl) rfl rfl (by (try simp only [List.map_toArray, List.map_cons, List.map_nil]); first | done | rfl | (simp only [List.length_drop, List.length_take]; rfl)) ?_
  with_reducible refine (cmp_Or_int.calls k _ _ y124 t127 _ ?side1 ?side2 A5.out).mono ?_
  (case side1 => repeat (first | exact (Kd.R_reads' HO126.out).2.2 | (with_reducible refine Kd.C_alloc ?_ _) | (with_reducible refine Kd.C_drewN ?_ _) | (with_reducible refine Kd.C_drew ?_)))
  (case side2 => exact (Kd.R_reads' HO126.out).2.1)
  rintro e w' ⟨rfl, ⟨nd, rfl⟩⟩
  refine ⟨_, rfl, ?_⟩
  refine hK.out _ _ ⟨(blk_cell BK120.out 0).trans rfl, (blk_cell BK120.out 1).trans rfl, (blk_cell BK120.out 2).trans rfl, (blk_cell BK120.out 3).trans rfl, (blk_cell BK120.out 4).trans rfl, (blk_cell BK120.out 5).trans rfl, (blk_cell BK120.out 6).trans rfl, (blk_cell BK120.out 7).trans rfl, (blk_cell BK120.out 8).trans rfl, (blk_cell BK120.out 9).trans rfl, (blk_cell BK120.out 10).trans rfl, (blk_cell BK120.out 11).trans rfl, (blk_cell BK121.out 0).trans rfl, (blk_cell BK121.out 1).trans rfl, (blk_cell BK121.out 2).trans rfl, (blk_cell BK121.out 3).trans rfl, (blk_cell BK121.out 4).trans rfl, (blk_cell BK121.out 5).trans rfl, (blk_cell BK121.out 6).trans rfl, (blk_cell BK121.out 7).trans rfl, (blk_cell BK121.out 8).trans rfl, (blk_cell BK121.out 9).trans rfl, (blk_cell BK121.out 10).trans rfl, (blk_cell BK121.out 11).trans rfl⟩ (fun hHeld => ?_)
  clear hK K
  refine norm_ (a' := ?_) ?_ ?_
  rotate_left
  · show Act.put _ (some 16) _ = _
    simp only [Act.put, List.setIfInBounds_toArray, List.set_cons_zero, List.set_cons_succ, i64_w, i32_w]
    rfl
  refine pure_ (i := 12) (N := some 4) (v := ?_) (a' := ?_) #[true, true, true, true, true, true, true, true, true, true, true, true, true] rfl rfl (any_of HT_.out (by kernel_rfl)) (fun _ _ _ h => h) (Or.inl ⟨by rfl, ?_⟩) ?_ ?_
  rotate_left
  · intro w'
    go_simp
    with_reducible rfl
  rotate_left
  · simp only [Act.put, List.setIfInBounds_toArray, List.set_cons_zero, List.set_cons_succ, i64_w, i32_w]
    rfl
  refine done_ (done_of HT_.out (by kernel_rfl)) ?_
  try go_wp2
  go_ret
  exact ⟨by first | rfl | (simp [errW_none, errW_some] <;> rfl) | (simp [*, errW_none, errW_some] <;> rfl), by repeat (first | (with_reducible first | exact HB.out | apply below_alloc | apply pw_below_drewN | apply below_drew1 | refine below_set ?_ GE120.out | refine below_set ?_ GE121.out) | exact HB.out)⟩
end Go.Proofs.Ytgipepjpkmlmaaa.P
namespace Go.Proofs.Ytgipepjpkmlmaaa.P
set_option linter.unusedVariables false
set_option linter.unusedSimpArgs false
section
open Go.RowKit Go.Proofs.YtgipepjpkmlmaaaW.PrintWords Go.Proofs.YtgipepjpkmlmaaaW.PrintLast Go.Proofs.YtgipepjpkmlmaaaW.PrintMore
abbrev cellV (x : S46) : Value := .agg #[.int .i64 x.f0, .int .i64 x.f1, .int .i64 x.f2.f0, .int .i64 x.f2.f1, .int .i64 x.f2.f2, .int .i64 x.f2.f3, .int .i64 x.f2.f4.f0, .int .i64 x.f2.f4.f1, .int .i64 x.f2.f4.f2, .int .i64 x.f2.f4.f3, .int .i64 x.f2.f5, .int .i64 x.f2.f6]
def cmpP (a b : Int) : Int := if a < b then -1 else if b < a then 1 else 0
/-- By the start, then by the key. -/
def ordP (x y : S46) : Int := if cmpP x.f1 y.f1 ≠ 0 then cmpP x.f1 y.f1 else cmpP x.f0 y.f0
theorem cmp_f (a b : Int) : cmp_Compare_int.f a b = some (cmpP a b) := by
  simp only [cmp_Compare_int.f, cmp_isNaN_int.f, cmpP, bne_self_eq_false, Option.bind_some]
  by_cases h : a < b
  · simp [h]
  · by_cases h2 : b < a
    · simp [h, h2]
    · simp [h, h2]
theorem or_f (a b : Int) : cmp_Or_int.f 4 [a, b] = some (if a ≠ 0 then a else b) := by
  have w1 : wrap64 (0 + 1) = 1 := by (unfold wrap64; omega)
  have w2 : wrap64 (1 + 1) = 2 := by (unfold wrap64; omega)
  have r0 : rd [a, b] 0 = a := rfl
  have r1 : rd [a, b] 1 = b := rfl
  have l2 : (([a, b] : List Int).length : Int) = 2 := rfl
  unfold cmp_Or_int.f
  simp only [cmp_Or_int.l0, w1, w2, r0, r1, l2]
  by_cases h : a = 0
  · by_cases h2 : b = 0
    · simp [h, h2]
    · simp [h, h2]
  · simp [h]
theorem order_calls (x y : S46) (w : World) : Calls Try.prog 48 #[cellV x, cellV y] w fun e w' => e = .returned (.int .i64 (ordP x y)) ∧ Below w.heap.size w w' := by
  refine engine_order.calls 4 _ _ _ _ _ _ _ _ _ _ _ _ _ _ _ _ _ _ _ _ _ _ _ _ _ w ?_
  unfold engine_order.f
  rw [cmp_f, Option.bind_some, cmp_f, Option.bind_some, or_f]
  rfl
end
section
open Go.RowKit Go.Proofs.YtgipepjpkmlmaaaW.PrintWords Go.Proofs.YtgipepjpkmlmaaaW.PrintLast Go.Proofs.YtgipepjpkmlmaaaW.PrintMore
/-- The place that is sought, between two places. -/
def bsL (l : List S46) (t : S46) : Nat → Nat → Nat → Nat
  | 0, i, _ => i
  | f + 1, i, j => if i < j then (if ordP (rd_T46 l (((i + j) / 2 : Nat) : Int)) t < 0 then bsL l t f ((i + j) / 2 + 1) j else bsL l t f i ((i + j) / 2)) else i
def bsI (l : List S46) (t : S46) : Nat := bsL l t (l.length + 1) 0 l.length
def bsF (l : List S46) (t : S46) : Bool := decide (bsI l t < l.length) && ordP (rd_T46 l (bsI l t : Int)) t == 0
end
end Go.Proofs.Ytgipepjpkmlmaaa.P
namespace Go.Proofs.Ytgipepjpkmlmaaa.P
set_option linter.unusedVariables false
set_option linter.unusedSimpArgs false
section
open Go.RowKit Go.Proofs.YtgipepjpkmlmaaaW.PrintWords Go.Proofs.YtgipepjpkmlmaaaW.PrintLast Go.Proofs.YtgipepjpkmlmaaaW.PrintMore
theorem eql_nil26 (w : World) (a : Option Addr) (n c : Nat) : (binOp .eql 26 (.slice a n c) (.slice none 0 0)).run Try.prog w = .ok (.bool a.isNone) w := by
  have h := Try.underlying26
  simp [binOp, h]
  have h3 := run_underlying (P := Try.prog) h
  have hm : Op.maxDepth = (Op.maxDepth - 1) + 1 := rfl
  cases a <;> (simp only [Op.equal]; rw [hm, Op.equalIn]; simp [h3])
/-- An empty row of one's own. -/
theorem R_empty {α : Type} (d : Kd α) {e B g : Nat} {w : World} {ok : Nat → Prop} (h : w.heap[g]? = some (.cells #[] e (0, 0))) (hB : B ≤ g) (ho : ok g) : Kd.R d e w B ok (.slice (some ⟨g, 0, none⟩) 0 0) [] := by
  refine ⟨fun k hk => ?_, [], ⟨by simp, .inr ⟨g, 0, #[], rfl, hB, h, (by simp), (by unfold maxLen; simp), (by simp), (by simp)⟩⟩, ?_⟩
  · obtain rfl : g = k := by simpa [Value.ownBlock] using hk
    exact ho
  · exact ⟨by simp, fun j p hj => by simp at hj⟩
set_option maxHeartbeats 4000000 in
set_option maxRecDepth 100000 in
theorem clone_calls (A : Option Addr) (c : Nat) (l : List S46) (w : World) (hr : Kd.C k46 w A l.length l) (hc : l.length ≤ c) (hl : l.length ≤ 1000000) (hn : A = none → l = [] ∧ c = 0) :
    Calls Try.prog 42 #[.slice A l.length c] w fun e w' => ∃ v, e = .returned v ∧ Kd.R k46 46 w' w.heap.size (fun _ => True) v l ∧ Below w.heap.size w w' := by
  cases A with
  | none =>
    obtain ⟨rfl, rfl⟩ := hn rfl
    have hq : (binOp .eql 26 (.slice none 0 0) (.slice none 0 0)).run Try.prog w = .ok (.bool true) w := eql_nil26 w none 0 0
    go_enter Try.func42, Try.ntmps42
    go_wp2
    go_ret
    exact ⟨_, rfl, Kd.R_nil _ _ _ _ _, Below.refl _ _⟩
  | some a =>
    have hq : (binOp .eql 26 (.slice (some a) l.length c) (.slice none 0 0)).run Try.prog w = .ok (.bool false) w := eql_nil26 w (some a) l.length c
    have hb1 : Below w.heap.size w (w.alloc (.cells #[] 46)) := (Below.refl _ _).alloc (Nat.le_refl _) _
    have hE : Kd.R k46 46 (w.alloc (.cells #[] 46)) w.heap.size (fun _ => True) (.slice (some ⟨w.heap.size, 0, none⟩) 0 0) [] := R_empty k46 (heap_alloc_new _ _) (Nat.le_refl _) trivial
    have hr1 := Kd.C_below hr hb1
    go_enter Try.func42, Try.ntmps42
    go_wp2_with (first | ((with_reducible refine gate_builtin (b := .append) (xs := #[.tmp 5, .tmp 6]) rfl ?_); at_builtin; refine Kd.R_append_rows k46 (w0 := w) w.heap.size rfl (.tmp 5) (.tmp 6) 26 46 (.agg #[(.int .i64 0), (.int .i64 0), (.int .i64 0), (.int .i64 0), (.int .i64 0), (.int .i64 0), (.int .i64 0), (.int .i64 0), (.int .i64 0), (.int .i64 0), (.int .i64 0), (.int .i64 0)]) 96 rfl Try.underlying26 info46 rfl (by decide) (by omega) (.slice (some ⟨w.heap.size, 0, none⟩) 0 0) [] l _ _ _ (fun _ => True) (fun _ => False) rfl rfl hE hr1 (fun _ _ h => by obtain rfl := k46_open h; exact k46_mkM _ _ _ _) (fun _ h => h.elim) (fun _ _ => trivial) hb1 hb1.size ?aL ?_; (case aL => simp; omega); intro v1 w1 ho hb hg hat; rw [List.nil_append] at ho))
    go_ret
    exact ⟨_, rfl, ho, hb⟩
end
section
open Go.RowKit Go.Proofs.YtgipepjpkmlmaaaW.PrintWords Go.Proofs.YtgipepjpkmlmaaaW.PrintLast Go.Proofs.YtgipepjpkmlmaaaW.PrintMore
section
set_option maxRecDepth 100000
end
end
section
open Go.RowKit Go.Proofs.YtgipepjpkmlmaaaW.PrintWords Go.Proofs.YtgipepjpkmlmaaaW.PrintLast Go.Proofs.YtgipepjpkmlmaaaW.PrintMore
/-- A sum that stands still at the ends. -/
def plusP (a b : Int) : Int := if 0 < b ∧ wrap64 (a + b) < a then 9223372036854775807 else if b < 0 ∧ a < wrap64 (a + b) then -9223372036854775808 else wrap64 (a + b)
/-- The sort of a number. -/
def sortN (v : Int) : Nat := if v < 0 then 0 else if v < 10 then 1 else if v < 100 then 2 else 3
end
section
open Go.RowKit Go.Proofs.YtgipepjpkmlmaaaW.PrintWords Go.Proofs.YtgipepjpkmlmaaaW.PrintLast Go.Proofs.YtgipepjpkmlmaaaW.PrintMore
attribute [local go_sem] max2_int min2_int max_two min_two
set_option linter.unusedVariables false
set_option linter.unusedSimpArgs false
def setH (h : S42) (k : Nat) (v : Int) : S42 := match k with
  | 0 => ⟨v, h.f1, h.f2, h.f3⟩
  | 1 => ⟨h.f0, v, h.f2, h.f3⟩
  | 2 => ⟨h.f0, h.f1, v, h.f3⟩
  | _ => ⟨h.f0, h.f1, h.f2, v⟩
def reQ (q : Nat) : Int := match q with | 0 => 1 | 2 => -1 | _ => 0
def imQ (q : Nat) : Int := match q with | 1 => 1 | 3 => -1 | _ => 0
/-- What fold.Add answers. -/
def addP (a : S44) (v : Int) : S44 :=
  ⟨plusP a.f0 1, plusP a.f1 v, mn (if a.f0 = 0 then v else a.f2) v, mx (if a.f0 = 0 then v else a.f3) v, setH a.f4 (sortN v) (plusP (hist a.f4 (sortN v)) 1), plusP a.f5 (reQ (v % 4).toNat), plusP a.f6 (imQ (v % 4).toNat)⟩
end
end Go.Proofs.Ytgipepjpkmlmaaa.P
namespace Go.Proofs.Ytgipepjpkmlmaaa.P
set_option linter.unusedVariables false
set_option linter.unusedSimpArgs false
section
open Go.RowKit Go.Proofs.YtgipepjpkmlmaaaW.PrintWords Go.Proofs.YtgipepjpkmlmaaaW.PrintLast Go.Proofs.YtgipepjpkmlmaaaW.PrintMore
/-- The cells of one window. -/
def c12 (x : S46) : List Value := [.int .i64 x.f0, .int .i64 x.f1, .int .i64 x.f2.f0, .int .i64 x.f2.f1, .int .i64 x.f2.f2, .int .i64 x.f2.f3, .int .i64 x.f2.f4.f0, .int .i64 x.f2.f4.f1, .int .i64 x.f2.f4.f2, .int .i64 x.f2.f4.f3, .int .i64 x.f2.f5, .int .i64 x.f2.f6]
theorem c12_length (x : S46) : (c12 x).length = 12 := rfl
/-- The cells of many. -/
def flat (l : List S46) : List Value := l.flatMap c12
theorem flat_cons (x : S46) (l : List S46) : flat (x :: l) = c12 x ++ flat l := rfl
theorem flat_append (a b : List S46) : flat (a ++ b) = flat a ++ flat b := by simp [flat]
theorem flat_length (l : List S46) : (flat l).length = l.length * 12 := by
  induction l with
  | nil => rfl
  | cons x l ih => rw [flat_cons, List.length_append, ih, c12_length, List.length_cons]; omega
theorem flat_take (l : List S46) (n : Nat) : flat (l.take n) = (flat l).take (n * 12) := by
  induction l generalizing n with
  | nil => simp [flat]
  | cons x l ih =>
    cases n with
    | zero => simp [flat]
    | succ n => rw [List.take_succ_cons, flat_cons, flat_cons, ih, show (n + 1) * 12 = (c12 x).length + n * 12 by rw [c12_length]; omega, List.take_length_add_append]
theorem flat_drop (l : List S46) (n : Nat) : flat (l.drop n) = (flat l).drop (n * 12) := by
  induction l generalizing n with
  | nil => simp [flat]
  | cons x l ih =>
    cases n with
    | zero => simp [flat]
    | succ n => rw [List.drop_succ_cons, flat_cons, ih, show (n + 1) * 12 = (c12 x).length + n * 12 by rw [c12_length]; omega, List.drop_length_add_append]
theorem flat_one (l : List S46) (v : Value) (h : v ∈ flat l) : v.oneCell' = true := by
  obtain ⟨x, _, hx⟩ := List.mem_flatMap.1 h
  simp [c12] at hx
  rcases hx with rfl | rfl | rfl | rfl | rfl | rfl | rfl | rfl | rfl | rfl | rfl | rfl <;> rfl
/-- As a row of windows lies. -/
theorem reps_flat {w : World} {B : Nat} {ok : Nat → Prop} : ∀ (l : List S46) (cs : List Value), Reps (k46.M w B ok) 12 l cs → cs = flat l := by
  intro l
  induction l with
  | nil => intro cs h; simpa [flat] using h.1
  | cons x l ih =>
    intro cs h
    have h1 := k46_openM (h.2 0 x rfl)
    rw [Nat.zero_mul, List.drop_zero] at h1
    have h2 : Reps (k46.M w B ok) 12 l (cs.drop 12) := by
      refine ⟨by rw [List.length_drop, h.1, List.length_cons]; omega, fun j p hj => ?_⟩
      have := h.2 (j + 1) p (by simpa using hj)
      rw [List.drop_drop]
      rwa [show 12 + j * 12 = (j + 1) * 12 by omega]
    rw [flat_cons, ← ih _ h2, show c12 x = cs.take 12 from h1.symm, List.take_append_drop]
theorem flat_reps (w : World) (B : Nat) (ok : Nat → Prop) (l : List S46) : Reps (k46.M w B ok) 12 l (flat l) := by
  refine ⟨flat_length l, fun j p hj => ?_⟩
  rw [← flat_drop]
  have hlt : j < l.length := (List.getElem?_eq_some_iff.1 hj).1
  have e : l[j] = p := (List.getElem?_eq_some_iff.1 hj).2
  rw [List.drop_eq_getElem_cons hlt, flat_cons, e, show (12 : Nat) = (c12 p).length from rfl, List.take_left]
  exact k46_mkM _ _ _ _
theorem own_of_R {w : World} {B : Nat} {ok : Nat → Prop} {v : Value} {l : List S46} (h : Kd.R k46 46 w B ok v l) : w.ownsRow B 46 12 v l.length (flat l) := by
  obtain ⟨_, cs, ho, hr⟩ := h
  rw [← reps_flat l cs hr]
  exact ho
theorem R_of_own {w : World} {B : Nat} {ok : Nat → Prop} {v : Value} {l : List S46} (h : w.ownsRow B 46 12 v l.length (flat l)) (hok : ∀ k, v.ownBlock = some k → ok k) : Kd.R k46 46 w B ok v l :=
  ⟨hok, flat l, h, flat_reps _ _ _ _⟩
end
section
open Go.RowKit Go.Proofs.YtgipepjpkmlmaaaW.PrintWords Go.Proofs.YtgipepjpkmlmaaaW.PrintLast Go.Proofs.YtgipepjpkmlmaaaW.PrintMore
/-- 'copy' of windows, into a row that is known whole. -/
theorem run_copy_k {P : Program} (w : World) (dT sT ty elem : TypeId) (sz : Nat) (g o dLen dCap : Nat) (a : Addr) (sLen sCap : Nat) (cur : Array Value) (t : TypeId) (cs : List Value)
    (hu : P.underlying dT = some (.slice elem)) (hs : (P.info? elem).map (·.size) = some sz)
    (hg : w.heap[g]? = some (.cells cur t (0, 0))) (n : Nat) (hm : Nat.min sLen dLen = n) (hn : cs.length = n * sz)
    (hsrc : ∀ j v, cs[j]? = some v → w.cell? (a.add j) = some v) (hfit : o + cs.length ≤ cur.size) (h1 : ∀ v ∈ cs, v.oneCell' = true) :
    (Builtin.copy_ #[dT, sT] ty #[.slice (some ⟨g, o, none⟩) dLen dCap, .slice (some a) sLen sCap]).run P w =
      .ok (goInt n) (w.setRow g (cur.toList.take o ++ cs ++ cur.toList.drop (o + cs.length)).toArray) := by
  have hl := run_loadCells_list (P := P) w a cs hsrc
  have hst := run_storeCells_at P g o t cs 0 cur w hg (by simpa using hfit) h1
  cases hq : P.info? elem with
  | none => simp [hq] at hs
  | some i =>
    have hi : i.size = sz := by simpa [hq] using hs
    simp [Builtin.copy_, run_underlying hu, Builtin.lenOf, Builtin.firstCells, sizeOf, typeInfo, hq, hi, hm, ← hn, hl, hst]
/-- 'append(s, make(S, n)...)' that makes a row anew. -/
theorem run_append_make {P : Program} (w : World) (t u ty e : TypeId) (i : TypeInfo) (z : Value) (ik : IntKind) (ht : P.underlying t = some (.slice e)) (hu : P.underlying u = some (.int ik)) (hi : P.info? e = some i) (hz : i.zero = some z)
    (b : Addr) (sLen sCap : Nat) (olds : List Value) (hlo : olds.length = sLen * i.size) (holds : ∀ j v, olds[j]? = some v → w.cell? (b.add j) = some v)
    (n : Nat) (hn0 : 0 < n * i.size) (h64 : (n : Int) ≤ 1000000000) (hb : i.bytes ≤ 1000)
    (hg : sCap < sLen + n) (h63 : ((sLen + n : Nat) : Int) ≤ 9223372036854775807) (hfit : Builtin.nextslicecap (sLen + n) sCap * i.bytes ≤ 281474976710656) :
    (Builtin.append_ #[t, u] ty #[.slice (some b) sLen sCap, .int .i64 (n : Int)]).run P w =
      .ok (.slice (some ⟨w.heap.size, 0, none⟩) (sLen + n) (grownCap w (sLen + n) sCap e))
        (w.drew.alloc (.cells (olds.toArray ++ Builtin.zeroCells z.cells n ++ Builtin.zeroCells z.cells (grownCap w (sLen + n) sCap e - (sLen + n))) e)) := by
  have hn : ¬ (sLen + n ≤ sCap) := by omega
  have h63' : ¬ (9223372036854775807 < ((sLen : Int) + (n : Int))) := by omega
  have h48' : ¬ (281474976710656 < Builtin.nextslicecap (sLen + n) sCap * i.bytes) := by omega
  have hw : IntKind.i64.wrap (n : Int) = (n : Int) := by rw [i64_w]; unfold wrap64; omega
  have hneg : ¬ ((n : Int) < 0) := by omega
  have hmul : ¬ ((281474976710656 : Int) < (n : Int) * (i.bytes : Int)) := by
    have : (n : Int) * (i.bytes : Int) ≤ 1000000000 * 1000 := Int.mul_le_mul (by omega) (by omega) (by omega) (by omega)
    omega
  have hmx : max (n : Int) 0 = (n : Int) := by omega
  have hnz : n ≠ 0 := by intro q; subst q; simp at hn0
  have hiz : i.size ≠ 0 := by intro q; rw [q] at hn0; simp at hn0
  have hfo := run_firstCells_some (P := P) w.drew i.size sLen b sLen sCap olds hlo (by simpa using holds)
  simp [Builtin.append_, run_underlying ht, run_underlying hu, sizeOf, typeInfo, zeroValue, hi, hz, Builtin.lenOf, hn, h63', h48', Question.forced, hfo, newRow, grownCap, asInt, asIntOf, hw, hneg, hmul, hnz, hiz, hmx]
  intro q
  omega
end
section
open Go.RowKit Go.Proofs.YtgipepjpkmlmaaaW.PrintWords Go.Proofs.YtgipepjpkmlmaaaW.PrintLast Go.Proofs.YtgipepjpkmlmaaaW.PrintMore
theorem c12_mk (w : World) (x : S46) : k46.K w x (c12 x) := k46_mk w x
/-- One window in a block of its own. -/
theorem one_C {w : World} {g : Nat} {x : S46} (h : w.heap[g]? = some (.cells (c12 x).toArray 46 (0, 0))) : k46.C w (some ⟨g, 0, none⟩) 1 [x] := by
  refine ⟨rfl, by omega, fun _ => ⟨_, rfl, fun j p hj => ?_⟩⟩
  obtain rfl : j = 0 := by
    cases j with
    | zero => rfl
    | succ j => simp at hj
  obtain rfl : x = p := by simpa using hj
  refine ⟨c12 x, rfl, c12_mk w x, fun i u hu => ?_⟩
  have e : ((⟨g, 0, none⟩ : Addr).add (0 * k46.sz + i)) = ⟨g, i, none⟩ := by
    rw [Nat.zero_mul, Nat.zero_add]
    unfold Addr.add
    simp
    omega
  rw [e, blk_cell h i]
  simpa using hu
set_option maxHeartbeats 8000000 in
set_option maxRecDepth 100000 in
theorem insert_end (B : Nat) (w0 w : World) (ok : Nat → Prop) (A : Option Addr) (c : Nat) (l : List S46) (x : S46) (gx : Nat) (hl : l.length ≤ 1000000) (hR : Kd.R k46 46 w B ok (.slice A l.length c) l)
    (hx : w.heap[gx]? = some (.cells (c12 x).toArray 46 (0, 0))) (hB : Below B w0 w) (hBw : B ≤ w.heap.size) (hok : ∀ k, w.heap.size ≤ k → ok k) :
    Calls Try.prog 71 #[.slice A l.length c, .int .i64 (l.length : Nat), .slice (some ⟨gx, 0, none⟩) 1 1] w fun e w' => ∃ v', e = .returned v' ∧ Kd.R k46 46 w' B ok v' (l ++ [x]) ∧ Below B w0 w' := by
  have hx1 := one_C hx
  have hc : l.length ≤ c := (Kd.R_reads' hR).2.1
  by_cases hcl : l.length = c
  · subst hcl
    go_enter Try.func71, Try.ntmps71
    go_wp2_with (first | ((with_reducible refine gate_builtin (b := .append) (xs := #[.tmp 23, .tmp 24]) rfl ?_); at_builtin; refine Kd.R_append_rows k46 (w0 := w0) B rfl (.tmp 23) (.tmp 24) 26 46 (.agg #[(.int .i64 0), (.int .i64 0), (.int .i64 0), (.int .i64 0), (.int .i64 0), (.int .i64 0), (.int .i64 0), (.int .i64 0), (.int .i64 0), (.int .i64 0), (.int .i64 0), (.int .i64 0)]) 96 rfl Try.underlying26 info46 rfl (by decide) (by omega) (.slice A l.length l.length) l [x] _ _ _ ok (fun _ => False) rfl rfl hR hx1 (fun _ _ h => by obtain rfl := k46_open h; exact k46_mkM _ _ _ _) (fun _ h => h.elim) hok hB hBw ?aL ?_; (case aL => first | omega | (simp; omega)); intro v1 w1 ho hb hg hat))
    go_ret
    exact ⟨_, rfl, ho, hb⟩
  · have d : decide (l.length = c) = false := decide_eq_false hcl
    have hlt : l.length < c := by omega
    clear hcl hc
    go_enter Try.func71, Try.ntmps71
    go_wp2_with (first | ((with_reducible refine gate_builtin (b := .append) (xs := #[.tmp 23, .tmp 24]) rfl ?_); at_builtin; refine Kd.R_append_rows k46 (w0 := w0) B rfl (.tmp 23) (.tmp 24) 26 46 (.agg #[(.int .i64 0), (.int .i64 0), (.int .i64 0), (.int .i64 0), (.int .i64 0), (.int .i64 0), (.int .i64 0), (.int .i64 0), (.int .i64 0), (.int .i64 0), (.int .i64 0), (.int .i64 0)]) 96 rfl Try.underlying26 info46 rfl (by decide) (by omega) (.slice A l.length c) l [x] _ _ _ ok (fun _ => False) rfl rfl hR hx1 (fun _ _ h => by obtain rfl := k46_open h; exact k46_mkM _ _ _ _) (fun _ h => h.elim) hok hB hBw ?aL ?_; (case aL => first | omega | (simp; omega)); intro v1 w1 ho hb hg hat))
    go_ret
    exact ⟨_, rfl, ho, hb⟩
end
section
open Go.RowKit Go.Proofs.YtgipepjpkmlmaaaW.PrintWords Go.Proofs.YtgipepjpkmlmaaaW.PrintLast Go.Proofs.YtgipepjpkmlmaaaW.PrintMore
/-- The row behind a copy. -/
def laid (cur : List Value) (o : Nat) (cs : List Value) : List Value := cur.take o ++ cs ++ cur.drop (o + cs.length)
theorem laid_length (cur : List Value) (o : Nat) (cs : List Value) (h : o + cs.length ≤ cur.length) : (laid cur o cs).length = cur.length := by
  simp [laid]
  omega
section
variable {P : Program} {w : World} {ops : Array Oper} {o : Oper} {a : Act} {Q : Exit → Act → World → Prop}
end
theorem ov_run (w : World) (a b : Addr) (la ca lb cb : Nat) (hne : a.block ≠ b.block) (ca1 cb1 : Array Value) (ha : w.heap[a.block]? = some (.cells ca1 46 (0, 0))) (hb : w.heap[b.block]? = some (.cells cb1 46 (0, 0))) (hk : cb1.size ≠ 0) :
    (callFunc 90 #[.slice (some a) la ca, .slice (some b) lb cb]).run Try.prog w = .ok (.value (.bool false)) w := by
  rw [run_callFunc_extern (e := Extern.SlicesOverlaps.overlaps #[26, 26] #[4]) Try.func90 (by kernel_rfl) rfl (by kernel_rfl) (by kernel_rfl)]
  rw [Go.Lib.run_overlaps_apart w 26 4 46 Try.underlying26 12 (fun w => by kernel_rfl) a b la ca lb cb hne 46 46 ca1.size cb1.size (by simp [World.shape?, ha]) (by simp [World.shape?, hb]) hk (by simp [World.frozen?, ha]) (by simp [World.frozen?, ha])]
  rfl
set_option maxHeartbeats 8000000 in
set_option maxRecDepth 100000 in
theorem insert_mid (B : Nat) (w0 w : World) (ok : Nat → Prop) (A : Option Addr) (c : Nat) (l : List S46) (x : S46) (gx i : Nat) (hi : i < l.length) (hl : l.length ≤ 1000000) (hR : Kd.R k46 46 w B ok (.slice A l.length c) l)
    (hx : w.heap[gx]? = some (.cells (c12 x).toArray 46 (0, 0))) (hne : ∀ k, (Value.slice A l.length c).ownBlock = some k → k ≠ gx) (hB : Below B w0 w) (hBw : B ≤ w.heap.size) (hok : ∀ k, w.heap.size ≤ k → ok k) (hroom : l.length + 1 ≤ c) :
    Calls Try.prog 71 #[.slice A l.length c, .int .i64 (i : Nat), .slice (some ⟨gx, 0, none⟩) 1 1] w fun e w' => ∃ v', e = .returned v' ∧ Kd.R k46 46 w' B ok v' (l.take i ++ x :: l.drop i) ∧ Below B w0 w' := by
  obtain ⟨g, cur, rfl, hBg, hg, hcm, hcs, htk⟩ : ∃ g cur, A = some ⟨g, 0, none⟩ ∧ B ≤ g ∧ w.heap[g]? = some (.cells cur 46 (0, 0)) ∧ c ≤ maxLen ∧ cur.size = c * 12 ∧ cur.toList.take (l.length * 12) = flat l := by
    rcases (own_of_R hR).2 with ⟨e, h0⟩ | ⟨g, cap, cur, e, h1, h2, h3, h4, h5, h6⟩
    · omega
    · cases e
      exact ⟨g, cur, rfl, h1, h2, h4, h5, h6⟩
  have hgx : g ≠ gx := hne g rfl
  have hokg := hR.1 g rfl
  have hov : ∀ n1 c1, (callFunc 90 #[.slice (some ⟨gx, 0, none⟩) 1 1, .slice (some ⟨g, (i + 1) * 12, none⟩) n1 c1]).run Try.prog w = .ok (.value (.bool false)) w := fun n1 c1 => ov_run w ⟨gx, 0, none⟩ ⟨g, (i + 1) * 12, none⟩ 1 1 n1 c1 (Ne.symm hgx) _ _ hx hg (by omega)
  have hwi : IntKind.i64.wrap ((i : Int) + 1) = (i : Int) + 1 := by rw [i64_w]; unfold wrap64; omega
  have hti : ((i : Int) + 1).toNat = i + 1 := by omega
  have hci : ¬ c = i + 1 := by omega
  have hci0 : ¬ c = i := by omega
  have hb1 : (0 : Int) ≤ (i : Int) + 1 ∧ (i : Int) + 1 ≤ (l.length : Int) + 1 := by omega
  have hb2 : (0 : Int) ≤ (i : Int) ∧ (i : Int) ≤ (l.length : Int) + 1 := by omega
  have hcl : ((l.length : Int) + 1 ≤ (c : Int)) := by omega
  have hsrc1 : ∀ (j : Nat) (v : Value), (flat (l.drop i))[j]? = some v → w.drew.cell? ((⟨g, i * 12, none⟩ : Addr).add j) = some v := by
    intro j v hv
    rw [flat_drop, ← htk, List.getElem?_drop] at hv
    have e : ((⟨g, i * 12, none⟩ : Addr).add j) = ⟨g, i * 12 + j, none⟩ := by unfold Addr.add; simp
    rw [e, blk_cell (blk_drew hg), ← Array.getElem?_toList]
    rw [List.getElem?_take] at hv
    split at hv
    · exact hv
    · cases hv
  have hcp : ∀ ty, (Builtin.copy_ #[26, 26] ty #[.slice (some ⟨g, (i + 1) * 12, none⟩) (l.length - i) (c - (i + 1)), .slice (some ⟨g, i * 12, none⟩) (l.length + 1 - i) (c - i)]).run Try.prog w.drew = .ok (goInt (l.length - i : Nat)) (w.drew.setRow g (laid cur.toList ((i + 1) * 12) (flat (l.drop i))).toArray) := fun ty =>
    run_copy_k w.drew 26 26 ty 46 12 g ((i + 1) * 12) (l.length - i) (c - (i + 1)) ⟨g, i * 12, none⟩ (l.length + 1 - i) (c - i) cur 46 (flat (l.drop i)) Try.underlying26 (by kernel_rfl) (blk_drew hg) (l.length - i) (Nat.min_eq_right (by omega)) (by rw [flat_length, List.length_drop]) hsrc1 (by rw [flat_length, List.length_drop]; omega) (fun v hv => flat_one _ v hv)
  obtain ⟨W1, hW1⟩ : ∃ W1, W1 = w.drew.setRow g (laid cur.toList ((i + 1) * 12) (flat (l.drop i))).toArray := ⟨_, rfl⟩
  have hg1 : W1.heap[g]? = some (.cells (laid cur.toList ((i + 1) * 12) (flat (l.drop i))).toArray 46 (0, 0)) := by rw [hW1]; exact setRow_heap _ _ _ _ _ _ (blk_drew hg)
  have hx1 : W1.heap[gx]? = some (.cells (c12 x).toArray 46 (0, 0)) := by rw [hW1, setRow_other _ _ _ _ (Ne.symm hgx)]; exact blk_drew hx
  have hB1 : Below B w0 W1 := by rw [hW1]; exact below_setRow (below_drew hB) hBg _
  rw [← hW1] at hcp
  clear hW1
  have hlen1 : (laid cur.toList ((i + 1) * 12) (flat (l.drop i))).length = c * 12 := by
    have hcl0 : cur.toList.length = c * 12 := by rw [Array.length_toList, hcs]
    have hh : (i + 1) * 12 + (flat (l.drop i)).length ≤ cur.toList.length := by rw [flat_length, List.length_drop, hcl0]; omega
    rw [laid_length _ _ _ hh, hcl0]
  have hsrc2 : ∀ (j : Nat) (v : Value), (c12 x)[j]? = some v → W1.cell? ((⟨gx, 0, none⟩ : Addr).add j) = some v := by
    intro j v hv
    have e : ((⟨gx, 0, none⟩ : Addr).add j) = ⟨gx, j, none⟩ := by unfold Addr.add; simp; omega
    rw [e, blk_cell hx1]
    simpa using hv
  have hcp2 : ∀ ty, (Builtin.copy_ #[26, 26] ty #[.slice (some ⟨g, i * 12, none⟩) (l.length + 1 - i) (c - i), .slice (some ⟨gx, 0, none⟩) 1 1]).run Try.prog W1 = .ok (goInt (1 : Nat)) (W1.setRow g (laid (laid cur.toList ((i + 1) * 12) (flat (l.drop i))) (i * 12) (c12 x)).toArray) := fun ty =>
    run_copy_k W1 26 26 ty 46 12 g (i * 12) (l.length + 1 - i) (c - i) ⟨gx, 0, none⟩ 1 1 (laid cur.toList ((i + 1) * 12) (flat (l.drop i))).toArray 46 (c12 x) Try.underlying26 (by kernel_rfl) hg1 1 (Nat.min_eq_left (by omega)) rfl hsrc2 (by rw [c12_length, List.size_toArray, hlen1]; omega) (fun v hv => flat_one [x] v (by simpa [flat] using hv))
  obtain ⟨W2, hW2⟩ : ∃ W2, W2 = W1.setRow g (laid (laid cur.toList ((i + 1) * 12) (flat (l.drop i))) (i * 12) (c12 x)).toArray := ⟨_, rfl⟩
  have hg2 : W2.heap[g]? = some (.cells (laid (laid cur.toList ((i + 1) * 12) (flat (l.drop i))) (i * 12) (c12 x)).toArray 46 (0, 0)) := by rw [hW2]; exact setRow_heap _ _ _ _ _ _ hg1
  have hB2 : Below B w0 W2 := by rw [hW2]; exact below_setRow hB1 hBg _
  rw [← hW2] at hcp2
  clear hW2
  have hlen2 : (laid (laid cur.toList ((i + 1) * 12) (flat (l.drop i))) (i * 12) (c12 x)).length = c * 12 := by
    rw [laid_length _ _ _ (by rw [c12_length, hlen1]; omega), hlen1]
  have hfin : (laid (laid cur.toList ((i + 1) * 12) (flat (l.drop i))) (i * 12) (c12 x)).take ((l.length + 1) * 12) = flat (l.take i ++ x :: l.drop i) := by
    have hcl0 : cur.toList.length = c * 12 := by rw [Array.length_toList, hcs]
    have t1 : (laid cur.toList ((i + 1) * 12) (flat (l.drop i))).take (i * 12) = flat (l.take i) := by
      unfold laid
      rw [List.append_assoc, List.take_append_of_le_length (by rw [List.length_take]; omega), List.take_take, Nat.min_eq_left (by omega), flat_take, ← htk, List.take_take, Nat.min_eq_left (by omega)]
    have t2 : (laid cur.toList ((i + 1) * 12) (flat (l.drop i))).drop (i * 12 + (c12 x).length) = flat (l.drop i) ++ cur.toList.drop ((i + 1) * 12 + (flat (l.drop i)).length) := by
      unfold laid
      rw [c12_length, show i * 12 + 12 = (i + 1) * 12 by omega, List.append_assoc, List.drop_append_of_le_length (by rw [List.length_take]; omega), List.drop_of_length_le (by rw [List.length_take]; omega), List.nil_append]
    have t3 : laid (laid cur.toList ((i + 1) * 12) (flat (l.drop i))) (i * 12) (c12 x) = flat (l.take i ++ x :: l.drop i) ++ cur.toList.drop ((i + 1) * 12 + (flat (l.drop i)).length) := by
      rw [show laid (laid cur.toList ((i + 1) * 12) (flat (l.drop i))) (i * 12) (c12 x) = (laid cur.toList ((i + 1) * 12) (flat (l.drop i))).take (i * 12) ++ c12 x ++ (laid cur.toList ((i + 1) * 12) (flat (l.drop i))).drop (i * 12 + (c12 x).length) from rfl, t1, t2, flat_append, flat_cons]
      simp
    rw [t3, List.take_append_of_le_length (by rw [flat_length]; simp; omega), List.take_of_length_le (by rw [flat_length]; simp; omega)]
  have hR2 : Kd.R k46 46 W2 B ok (.slice (some ⟨g, 0, none⟩) (l.length + 1) c) (l.take i ++ x :: l.drop i) := by
    have hll : (l.take i ++ x :: l.drop i).length = l.length + 1 := by simp; omega
    refine R_of_own ⟨flat_length _, .inr ⟨g, c, _, by rw [hll], hBg, hg2, by rw [hll]; omega, hcm, by rw [List.size_toArray, hlen2], ?_⟩⟩ (fun k hk => by (have e : g = k := by simpa [Value.ownBlock] using hk); subst e; exact hokg)
    rw [hll]
    exact hfin
  have HB2 := Lib.hid hB2
  have HR2 := Lib.hid hR2
  clear hB2 hR2 hfin hlen1 hlen2 hsrc2 hg2 hB1 hg1 hx1 hsrc1 hR hg hx hok hB hne htk hcs
  go_enter Try.func71, Try.ntmps71
  go_wp2
  refine wp_region_any (by kernel_rfl) ?_
  try (change wpAny _ _ _ _ _ _ _ (World.drew _))
  refine wpAny_take (i := 0) (v := ?v0_9) rfl (by kernel_rfl) (by kernel_rfl) (by kernel_rfl) (fun _ _ _ h => h) (Or.inl ⟨by first | (go_simp; done) | rfl, ?hy0_9⟩) ?_
  case hy0_9 => intro w_; first | (go_simp; done) | (go_simp; with_reducible rfl)
  refine wpAny_take (i := 1) (v := ?v1_10) rfl (by kernel_rfl) (by kernel_rfl) (by kernel_rfl) (fun _ _ _ h => h) (Or.inl ⟨by first | (go_simp; done) | rfl, ?hy1_10⟩) ?_
  case hy1_10 => intro w_; first | (go_simp; done) | (go_simp; with_reducible rfl)
  refine wpAny_take (i := 2) (v := ?v2_11) rfl (by kernel_rfl) (by kernel_rfl) (by kernel_rfl) (fun _ _ _ h => h) (Or.inl ⟨by first | (go_simp; done) | rfl, ?hy2_11⟩) ?_
  case hy2_11 => intro w_; first | (go_simp; done) | (go_simp; with_reducible rfl)
  refine wpAny_take (i := 3) (v := ?v3_12) rfl (by kernel_rfl) (by kernel_rfl) (by kernel_rfl) (fun _ _ _ h => h) (Or.inl ⟨by first | (go_simp; done) | rfl, ?hy3_12⟩) ?_
  case hy3_12 => intro w_; first | (go_simp; done) | (go_simp; with_reducible rfl)
  refine wpAny_take (i := 4) (v := ?v4_13) rfl (by kernel_rfl) (by kernel_rfl) (by kernel_rfl) (fun _ _ _ h => h) (Or.inl ⟨by first | (go_simp; done) | rfl, ?hy4_13⟩) ?_
  case hy4_13 => intro w_; first | (go_simp; done) | (go_simp; with_reducible rfl)
  refine wpAny_take (i := 5) (v := ?v5_14) rfl (by kernel_rfl) (by kernel_rfl) (by kernel_rfl) (fun _ _ _ h => h) (Or.inl ⟨by first | (go_simp; done) | rfl, ?hy5_14⟩) ?_
  case hy5_14 => intro w_; first | (go_simp; done) | (go_simp; with_reducible rfl)
  refine wpAny_take (i := 6) (v := ?v6_15) rfl (by kernel_rfl) (by kernel_rfl) (by kernel_rfl) (fun _ _ _ h => h) (Or.inl ⟨by first | (go_simp; done) | rfl, ?hy6_15⟩) ?_
  case hy6_15 => intro w_; first | (go_simp; done) | (go_simp; with_reducible rfl)
  refine wpAny_take (i := 7) (v := ?v7_16) rfl (by kernel_rfl) (by kernel_rfl) (by kernel_rfl) (fun _ _ _ h => h) (Or.inl ⟨by first | (go_simp; done) | rfl, ?hy7_16⟩) ?_
  case hy7_16 => intro w_; first | (go_simp; done) | (go_simp; with_reducible rfl)
  refine wpAny_ready (rs := [8]) (by kernel_rfl) (by simp) ?_
  refine (AllReady.cons rfl (fun K hK => ?_) AllReady.nil)
  · go_simp
    refine hK _ _ ?_
    clear hK K
    refine wpAny_done (by kernel_rfl) ?_ _
    try go_simp
    go_wp2
    go_ret
    exact ⟨_, rfl, HR2.out, HB2.out⟩
end
section
open Go.RowKit Go.Proofs.YtgipepjpkmlmaaaW.PrintWords Go.Proofs.YtgipepjpkmlmaaaW.PrintLast Go.Proofs.YtgipepjpkmlmaaaW.PrintMore
theorem wpList_append_run {P : Program} {w : World} {ops : Array Oper} {rest : List Oper} {o : Oper} {a : Act} {Q : Exit → Act → World → Prop} (hgd : o.guard = none) (d s : Operand) (dT sT : TypeId)
    (ho : o.op = .call { callee := .builtin .append, args := #[d, s], argTypes := #[dT, sT] }) (vd vs v : Value) (hd : a.eval d = vd) (hs : a.eval s = vs) (w1 : World)
    (hrun : ∀ ty, (Builtin.append_ #[dT, sT] ty #[vd, vs]).run P w = .ok v w1) (h : wpList P ops Q rest (a.put o.dst v) w1) : wpList P ops Q (o :: rest) a w := by
  refine wpList_plain hgd fun K hK => ?_
  have hr := hrun o.type
  unfold Oper.wp
  simp [execOp, ho, resolve, invoke, builtin, hd, hs, hr, Result.andThen]
  exact hK _ _ h
theorem zc_size (z : Array Value) (n : Nat) : (Builtin.zeroCells z n).size = n * z.size := by simp [Builtin.zeroCells]
set_option maxHeartbeats 8000000 in
set_option maxRecDepth 100000 in
theorem insert_grow (B : Nat) (w0 w : World) (ok : Nat → Prop) (A : Option Addr) (c : Nat) (l : List S46) (x : S46) (gx i : Nat) (hi : i < l.length) (hl : l.length ≤ 1000000) (hR : Kd.R k46 46 w B ok (.slice A l.length c) l)
    (hx : w.heap[gx]? = some (.cells (c12 x).toArray 46 (0, 0))) (hB : Below B w0 w) (hBw : B ≤ w.heap.size) (hok : ∀ k, w.heap.size ≤ k → ok k) (hroom : ¬ l.length + 1 ≤ c) :
    Calls Try.prog 71 #[.slice A l.length c, .int .i64 (i : Nat), .slice (some ⟨gx, 0, none⟩) 1 1] w fun e w' => ∃ v', e = .returned v' ∧ Kd.R k46 46 w' B ok v' (l.take i ++ x :: l.drop i) ∧ Below B w0 w' := by
  obtain ⟨g, cur, rfl, hBg, hg, hnc, hcm, hcs, htk⟩ : ∃ g cur, A = some ⟨g, 0, none⟩ ∧ B ≤ g ∧ w.heap[g]? = some (.cells cur 46 (0, 0)) ∧ l.length ≤ c ∧ c ≤ maxLen ∧ cur.size = c * 12 ∧ cur.toList.take (l.length * 12) = flat l := by
    rcases (own_of_R hR).2 with ⟨e, h0⟩ | ⟨g, cap, cur, e, h1, h2, h3, h4, h5, h6⟩
    · omega
    · cases e
      exact ⟨g, cur, rfl, h1, h2, h3, h4, h5, h6⟩
  obtain rfl : c = l.length := by omega
  have hwi : IntKind.i64.wrap ((i : Int) + 1) = (i : Int) + 1 := by rw [i64_w]; unfold wrap64; omega
  have hti : ((i : Int) + 1).toNat = i + 1 := by omega
  have hlg : g < w.heap.size := blk_lt hg
  have hlx : gx < w.heap.size := blk_lt hx
  obtain ⟨i46, hi46, hi46b⟩ := Option.map_eq_some_iff.1 info46
  simp only [Prod.mk.injEq] at hi46b
  obtain ⟨hiz, his, hib⟩ := hi46b
  have hsrc0 : ∀ (j : Nat) (v : Value), (flat (l.take i))[j]? = some v → w.cell? ((⟨g, 0, none⟩ : Addr).add j) = some v := by
    intro j v hv
    rw [flat_take, ← htk, List.getElem?_take] at hv
    have e : ((⟨g, 0, none⟩ : Addr).add j) = ⟨g, j, none⟩ := by unfold Addr.add; simp; omega
    rw [e, blk_cell hg, ← Array.getElem?_toList]
    split at hv
    · rw [List.getElem?_take] at hv
      split at hv
      · exact hv
      · cases hv
    · cases hv
  have happ := fun ty => run_append_make w 26 3 ty 46 i46 _ .i64 Try.underlying26 (by kernel_rfl) hi46 hiz ⟨g, 0, none⟩ i l.length (flat (l.take i)) (by rw [flat_length, List.length_take, his]; omega) hsrc0 (l.length + 1 - i) (by rw [his]; omega) (by omega) (by rw [hib]; omega) (by omega) (by omega) (growslice_fits (by omega) (by rw [hib]; omega))
  have hcapge := grownCap_ge w (i + (l.length + 1 - i)) l.length 46
  have hcaple := grownCap_le_maxLen w (i + (l.length + 1 - i)) l.length 46 (by unfold maxLen; omega)
  revert happ hcapge hcaple
  generalize grownCap w (i + (l.length + 1 - i)) l.length 46 = N
  rw [show i + (l.length + 1 - i) = l.length + 1 by omega, show ((l.length + 1 - i : Nat) : Int) = (l.length : Int) + 1 - (i : Int) by omega]
  generalize hcur : (flat (l.take i)).toArray ++ Builtin.zeroCells (Value.agg #[.int .i64 0, .int .i64 0, .int .i64 0, .int .i64 0, .int .i64 0, .int .i64 0, .int .i64 0, .int .i64 0, .int .i64 0, .int .i64 0, .int .i64 0, .int .i64 0]).cells (l.length + 1 - i) ++ Builtin.zeroCells (Value.agg #[.int .i64 0, .int .i64 0, .int .i64 0, .int .i64 0, .int .i64 0, .int .i64 0, .int .i64 0, .int .i64 0, .int .i64 0, .int .i64 0, .int .i64 0, .int .i64 0]).cells (N - (l.length + 1)) = cur2
  intro happ hcapge hcaple
  obtain ⟨W0, hW0⟩ : ∃ W0, W0 = w.drew.alloc (.cells cur2 46) := ⟨_, rfl⟩
  have hz1 : ∀ n, (Builtin.zeroCells (Value.agg #[.int .i64 0, .int .i64 0, .int .i64 0, .int .i64 0, .int .i64 0, .int .i64 0, .int .i64 0, .int .i64 0, .int .i64 0, .int .i64 0, .int .i64 0, .int .i64 0]).cells n).size = n * 12 := fun n => by rw [zc_size]; rfl
  have hsz2 : cur2.size = N * 12 := by
    rw [← hcur, Array.size_append, Array.size_append, hz1, hz1, List.size_toArray, flat_length, List.length_take]
    omega
  have hsl : cur2.toList.length = N * 12 := by rw [Array.length_toList, hsz2]
  have htk2 : cur2.toList.take (i * 12) = flat (l.take i) := by
    rw [← hcur]
    simp only [Array.toList_append]
    rw [List.append_assoc, List.take_append_of_le_length (by rw [flat_length, List.length_take]; omega), List.take_of_length_le (by rw [flat_length, List.length_take]; omega)]
  clear hcur hz1
  have h0g : W0.heap[w.heap.size]? = some (.cells cur2 46 (0, 0)) := by rw [hW0]; exact heap_alloc_new w.drew _
  have h0x : W0.heap[gx]? = some (.cells (c12 x).toArray 46 (0, 0)) := by rw [hW0]; exact blk_alloc (blk_drew hx) _
  have h0s : W0.heap[g]? = some (.cells cur 46 (0, 0)) := by rw [hW0]; exact blk_alloc (blk_drew hg) _
  have hB0 : Below B w0 W0 := by rw [hW0]; exact Below.alloc (below_drew hB) hBw _
  rw [← hW0] at happ
  clear hW0 hsrc0
  have hsrc2 : ∀ (j : Nat) (v : Value), (c12 x)[j]? = some v → W0.cell? ((⟨gx, 0, none⟩ : Addr).add j) = some v := by
    intro j v hv
    have e : ((⟨gx, 0, none⟩ : Addr).add j) = ⟨gx, j, none⟩ := by unfold Addr.add; simp; omega
    rw [e, blk_cell h0x]
    simpa using hv
  have hcp1 : ∀ ty, (Builtin.copy_ #[26, 26] ty #[.slice (some ⟨w.heap.size, i * 12, none⟩) (l.length + 1 - i) (N - i), .slice (some ⟨gx, 0, none⟩) 1 1]).run Try.prog W0 = .ok (goInt (1 : Nat)) (W0.setRow w.heap.size (laid cur2.toList (i * 12) (c12 x)).toArray) := fun ty =>
    run_copy_k W0 26 26 ty 46 12 w.heap.size (i * 12) (l.length + 1 - i) (N - i) ⟨gx, 0, none⟩ 1 1 cur2 46 (c12 x) Try.underlying26 (by kernel_rfl) h0g 1 (Nat.min_eq_left (by omega)) rfl hsrc2 (by rw [c12_length, hsz2]; omega) (fun v hv => flat_one [x] v (by simpa [flat] using hv))
  obtain ⟨W1, hW1⟩ : ∃ W1, W1 = W0.setRow w.heap.size (laid cur2.toList (i * 12) (c12 x)).toArray := ⟨_, rfl⟩
  have h1g : W1.heap[w.heap.size]? = some (.cells (laid cur2.toList (i * 12) (c12 x)).toArray 46 (0, 0)) := by rw [hW1]; exact setRow_heap _ _ _ _ _ _ h0g
  have h1s : W1.heap[g]? = some (.cells cur 46 (0, 0)) := by rw [hW1, setRow_other _ _ _ _ (by omega)]; exact h0s
  have hB1 : Below B w0 W1 := by rw [hW1]; exact below_setRow hB0 hBw _
  rw [← hW1] at hcp1
  clear hW1
  have hlen1 : (laid cur2.toList (i * 12) (c12 x)).length = N * 12 := by
    rw [laid_length _ _ _ (by rw [c12_length, hsl]; omega), hsl]
  have hsrc3 : ∀ (j : Nat) (v : Value), (flat (l.drop i))[j]? = some v → W1.drew.cell? ((⟨g, i * 12, none⟩ : Addr).add j) = some v := by
    intro j v hv
    rw [flat_drop, ← htk, List.getElem?_drop] at hv
    have e : ((⟨g, i * 12, none⟩ : Addr).add j) = ⟨g, i * 12 + j, none⟩ := by unfold Addr.add; simp
    rw [e, blk_cell (blk_drew h1s), ← Array.getElem?_toList]
    rw [List.getElem?_take] at hv
    split at hv
    · exact hv
    · cases hv
  have hcp2 : ∀ ty, (Builtin.copy_ #[26, 26] ty #[.slice (some ⟨w.heap.size, (i + 1) * 12, none⟩) (l.length - i) (N - (i + 1)), .slice (some ⟨g, i * 12, none⟩) (l.length - i) (l.length - i)]).run Try.prog W1.drew = .ok (goInt (l.length - i : Nat)) (W1.drew.setRow w.heap.size (laid (laid cur2.toList (i * 12) (c12 x)) ((i + 1) * 12) (flat (l.drop i))).toArray) := fun ty =>
    run_copy_k W1.drew 26 26 ty 46 12 w.heap.size ((i + 1) * 12) (l.length - i) (N - (i + 1)) ⟨g, i * 12, none⟩ (l.length - i) (l.length - i) (laid cur2.toList (i * 12) (c12 x)).toArray 46 (flat (l.drop i)) Try.underlying26 (by kernel_rfl) (blk_drew h1g) (l.length - i) (Nat.min_self _) (by rw [flat_length, List.length_drop]) hsrc3 (by rw [flat_length, List.length_drop, List.size_toArray, hlen1]; omega) (fun v hv => flat_one _ v hv)
  obtain ⟨W2, hW2⟩ : ∃ W2, W2 = W1.drew.setRow w.heap.size (laid (laid cur2.toList (i * 12) (c12 x)) ((i + 1) * 12) (flat (l.drop i))).toArray := ⟨_, rfl⟩
  have h2g : W2.heap[w.heap.size]? = some (.cells (laid (laid cur2.toList (i * 12) (c12 x)) ((i + 1) * 12) (flat (l.drop i))).toArray 46 (0, 0)) := by rw [hW2]; exact setRow_heap _ _ _ _ _ _ (blk_drew h1g)
  have hB2 : Below B w0 W2 := by rw [hW2]; exact below_setRow (below_drew hB1) hBw _
  rw [← hW2] at hcp2
  clear hW2
  have hlen2 : (laid (laid cur2.toList (i * 12) (c12 x)) ((i + 1) * 12) (flat (l.drop i))).length = N * 12 := by
    rw [laid_length _ _ _ (by rw [flat_length, List.length_drop, hlen1]; omega), hlen1]
  have hfin : (laid (laid cur2.toList (i * 12) (c12 x)) ((i + 1) * 12) (flat (l.drop i))).take ((l.length + 1) * 12) = flat (l.take i ++ x :: l.drop i) := by
    have t1 : (laid cur2.toList (i * 12) (c12 x)).take ((i + 1) * 12) = flat (l.take i) ++ c12 x := by
      unfold laid
      rw [List.take_append_of_le_length (by rw [List.length_append, List.length_take, c12_length]; omega), List.take_of_length_le (by rw [List.length_append, List.length_take, c12_length]; omega), htk2]
    have t3 : ∃ rest, laid (laid cur2.toList (i * 12) (c12 x)) ((i + 1) * 12) (flat (l.drop i)) = flat (l.take i ++ x :: l.drop i) ++ rest := by
      refine ⟨(laid cur2.toList (i * 12) (c12 x)).drop ((i + 1) * 12 + (flat (l.drop i)).length), ?_⟩
      rw [show laid (laid cur2.toList (i * 12) (c12 x)) ((i + 1) * 12) (flat (l.drop i)) = (laid cur2.toList (i * 12) (c12 x)).take ((i + 1) * 12) ++ flat (l.drop i) ++ (laid cur2.toList (i * 12) (c12 x)).drop ((i + 1) * 12 + (flat (l.drop i)).length) from rfl, t1, flat_append, flat_cons]
      simp
    obtain ⟨rest, t3⟩ := t3
    rw [t3, List.take_append_of_le_length (by rw [flat_length]; simp; omega), List.take_of_length_le (by rw [flat_length]; simp; omega)]
  have hR2 : Kd.R k46 46 W2 B ok (.slice (some ⟨w.heap.size, 0, none⟩) (l.length + 1) N) (l.take i ++ x :: l.drop i) := by
    have hll : (l.take i ++ x :: l.drop i).length = l.length + 1 := by simp; omega
    refine R_of_own ⟨flat_length _, .inr ⟨w.heap.size, N, _, by rw [hll], hBw, h2g, by rw [hll]; omega, hcaple, by rw [List.size_toArray, hlen2], ?_⟩⟩ (fun k hk => by (have e : w.heap.size = k := by simpa [Value.ownBlock] using hk); exact hok k (by omega))
    rw [hll]
    exact hfin
  have HB2 := Lib.hid hB2
  have HR2 := Lib.hid hR2
  have hNi : ¬ N = i := by omega
  have hNi1 : ¬ N = i + 1 := by omega
  have hli : ¬ l.length = i := by omega
  have hb1 : (0 : Int) ≤ (i : Int) + 1 ∧ (i : Int) + 1 ≤ (l.length : Int) + 1 := by omega
  have hb2 : (0 : Int) ≤ (i : Int) ∧ (i : Int) ≤ (l.length : Int) + 1 := by omega
  have hb3 : (0 : Int) ≤ (i : Int) ∧ (i : Int) ≤ (l.length : Int) := by omega
  clear hB2 hR2 hfin hlen1 hlen2 hsrc2 hsrc3 h2g hB1 h1g h1s hB0 h0g h0x h0s hR hg hx hok hB htk hcs htk2 hsl hsz2 hroom hi46 hiz his hib
  go_enter Try.func71, Try.ntmps71
  go_wp2_with (first | ((with_reducible refine gate_builtin (b := .append) (xs := #[.tmp 34, .tmp 39]) rfl ?_); at_builtin; refine wpList_append_run rfl (.tmp 34) (.tmp 39) 26 3 rfl _ _ _ rfl rfl W0 happ ?_))
  refine wp_region_any (by kernel_rfl) ?_
  try (change wpAny _ _ _ _ _ _ _ (World.drew _))
  refine wpAny_take (i := 0) (v := ?v0_1) rfl (by kernel_rfl) (by kernel_rfl) (by kernel_rfl) (fun _ _ _ h => h) (Or.inl ⟨by first | (go_simp; done) | rfl, ?hy0_1⟩) ?_
  case hy0_1 => intro w_; first | (go_simp; done) | (go_simp; with_reducible rfl)
  refine wpAny_take (i := 1) (v := ?v1_2) rfl (by kernel_rfl) (by kernel_rfl) (by kernel_rfl) (fun _ _ _ h => h) (Or.inl ⟨by first | (go_simp; done) | rfl, ?hy1_2⟩) ?_
  case hy1_2 => intro w_; first | (go_simp; done) | (go_simp; with_reducible rfl)
  refine wpAny_take (i := 2) (v := ?v2_3) rfl (by kernel_rfl) (by kernel_rfl) (by kernel_rfl) (fun _ _ _ h => h) (Or.inl ⟨by first | (go_simp; done) | rfl, ?hy2_3⟩) ?_
  case hy2_3 => intro w_; first | (go_simp; done) | (go_simp; with_reducible rfl)
  refine wpAny_take (i := 3) (v := ?v3_4) rfl (by kernel_rfl) (by kernel_rfl) (by kernel_rfl) (fun _ _ _ h => h) (Or.inl ⟨by first | (go_simp; done) | rfl, ?hy3_4⟩) ?_
  case hy3_4 => intro w_; first | (go_simp; done) | (go_simp; with_reducible rfl)
  refine wpAny_take (i := 4) (v := ?v4_5) rfl (by kernel_rfl) (by kernel_rfl) (by kernel_rfl) (fun _ _ _ h => h) (Or.inl ⟨by first | (go_simp; done) | rfl, ?hy4_5⟩) ?_
  case hy4_5 => intro w_; first | (go_simp; done) | (go_simp; with_reducible rfl)
  refine wpAny_take (i := 5) (v := ?v5_6) rfl (by kernel_rfl) (by kernel_rfl) (by kernel_rfl) (fun _ _ _ h => h) (Or.inl ⟨by first | (go_simp; done) | rfl, ?hy5_6⟩) ?_
  case hy5_6 => intro w_; first | (go_simp; done) | (go_simp; with_reducible rfl)
  refine wpAny_take (i := 6) (v := ?v6_7) rfl (by kernel_rfl) (by kernel_rfl) (by kernel_rfl) (fun _ _ _ h => h) (Or.inl ⟨by first | (go_simp; done) | rfl, ?hy6_7⟩) ?_
  case hy6_7 => intro w_; first | (go_simp; done) | (go_simp; with_reducible rfl)
  refine wpAny_take (i := 7) (v := ?v7_8) rfl (by kernel_rfl) (by kernel_rfl) (by kernel_rfl) (fun _ _ _ h => h) (Or.inl ⟨by first | (go_simp; done) | rfl, ?hy7_8⟩) ?_
  case hy7_8 => intro w_; first | (go_simp; done) | (go_simp; with_reducible rfl)
  refine wpAny_ready (rs := [8]) (by kernel_rfl) (by simp) ?_
  refine (AllReady.cons rfl (fun K hK => ?_) AllReady.nil)
  · go_simp
    refine hK _ _ ?_
    clear hK K
    refine wpAny_done (by kernel_rfl) ?_ _
    try go_simp
    go_wp2
    go_ret
    exact ⟨_, rfl, HR2.out, HB2.out⟩
end
section
open Go.RowKit Go.Proofs.YtgipepjpkmlmaaaW.PrintWords Go.Proofs.YtgipepjpkmlmaaaW.PrintLast Go.Proofs.YtgipepjpkmlmaaaW.PrintMore
theorem insert_calls (B : Nat) (w0 w : World) (ok : Nat → Prop) (A : Option Addr) (c : Nat) (l : List S46) (x : S46) (gx i : Nat) (hi : i ≤ l.length) (hl : l.length ≤ 1000000) (hR : Kd.R k46 46 w B ok (.slice A l.length c) l)
    (hx : w.heap[gx]? = some (.cells (c12 x).toArray 46 (0, 0))) (hne : ∀ k, (Value.slice A l.length c).ownBlock = some k → k ≠ gx) (hB : Below B w0 w) (hBw : B ≤ w.heap.size) (hok : ∀ k, w.heap.size ≤ k → ok k) :
    Calls Try.prog 71 #[.slice A l.length c, .int .i64 (i : Nat), .slice (some ⟨gx, 0, none⟩) 1 1] w fun e w' => ∃ v', e = .returned v' ∧ Kd.R k46 46 w' B ok v' (l.take i ++ x :: l.drop i) ∧ Below B w0 w' := by
  by_cases h : i < l.length
  · by_cases hr : l.length + 1 ≤ c
    · exact insert_mid B w0 w ok A c l x gx i h hl hR hx hne hB hBw hok hr
    · exact insert_grow B w0 w ok A c l x gx i h hl hR hx hB hBw hok hr
  · obtain rfl : i = l.length := by omega
    have := insert_end B w0 w ok A c l x gx hl hR hx hB hBw hok
    rwa [List.take_length, List.drop_length]
end
end Go.Proofs.Ytgipepjpkmlmaaa.P
namespace Go.Proofs.Ytgipepjpkmlmaaa.P
set_option linter.unusedVariables false
set_option linter.unusedSimpArgs false
section
open Go.RowKit Go.Proofs.YtgipepjpkmlmaaaW.PrintWords Go.Proofs.YtgipepjpkmlmaaaW.PrintLast Go.Proofs.YtgipepjpkmlmaaaW.PrintMore
/-- A grid that may be, as grid.Check has it. -/
def chkG (g : S23) : Bool := decide (1 ≤ g.f0 ∧ g.f0 ≤ 1048576 ∧ 1 ≤ g.f1 ∧ g.f1 ≤ g.f0 ∧ Int.tmod g.f0 g.f1 = 0 ∧ wrap64 (Int.tdiv g.f0 g.f1) ≤ 8 ∧ 0 ≤ g.f2 ∧ g.f2 ≤ 1048576)
theorem check_f (g : S23) : grid_Check.f g.f0 g.f1 g.f2 = some (argE (chkG g)) := by
  unfold grid_Check.f argE chkG
  by_cases h1 : g.f0 < 1
  · rw [if_pos h1]; simp; omega
  rw [if_neg h1]
  by_cases h2 : g.f0 > 1048576
  · rw [if_pos h2]; simp; omega
  rw [if_neg h2]
  by_cases h3 : g.f1 < 1
  · rw [if_pos h3]; simp; omega
  rw [if_neg h3]
  by_cases h4 : g.f1 > g.f0
  · rw [if_pos h4]; simp; omega
  rw [if_neg h4, if_neg (by omega)]
  by_cases h5 : Int.tmod g.f0 g.f1 = 0
  · rw [if_pos h5]
    by_cases h6 : wrap64 (Int.tdiv g.f0 g.f1) > 8
    · rw [if_pos h6]; simp; omega
    rw [if_neg h6]
    by_cases h7 : g.f2 < 0
    · rw [if_pos h7]; simp; omega
    rw [if_neg h7]
    by_cases h8 : g.f2 > 1048576
    · rw [if_pos h8]; simp; omega
    rw [if_neg h8, decide_eq_true ⟨by omega, by omega, by omega, by omega, h5, by omega, by omega, by omega⟩]
    rfl
  · rw [if_neg h5, decide_eq_false (fun q => h5 q.2.2.2.2.1)]
    rfl
/-- Whether a window is closed. -/
def closedP (g : S23) (start mark : Int) : Bool := chkG g && (decide (0 ≤ mark) && decide (start ≤ wrap64 (wrap64 (mark - g.f0) - g.f2)))
theorem closed_f (g : S23) (start mark : Int) : grid_Closed.f g.f0 g.f1 g.f2 start mark = some (closedP g start mark) := by
  unfold grid_Closed.f closedP
  rw [check_f, Option.bind_some]
  cases h : chkG g with
  | true =>
    rw [show argE true = 0 from rfl, if_pos rfl]
    by_cases h2 : mark ≥ 0
    · rw [if_pos h2, decide_eq_true h2]
      simp
    · rw [if_neg h2, decide_eq_false h2]
      rfl
  | false => rfl
abbrev gridV (g : S23) : Value := .agg #[.int .i64 g.f0, .int .i64 g.f1, .int .i64 g.f2]
theorem check_calls (g : S23) (w : World) : Calls Try.prog 44 #[gridV g] w fun e w' => e = .returned (.int .i64 (argE (chkG g))) ∧ Below w.heap.size w w' :=
  grid_Check.calls g.f0 g.f1 g.f2 _ w (check_f g)
theorem closed_calls (g : S23) (start mark : Int) (w : World) : Calls Try.prog 46 #[gridV g, .int .i64 start, .int .i64 mark] w fun e w' => e = .returned (.bool (closedP g start mark)) ∧ Below w.heap.size w w' :=
  grid_Closed.calls g.f0 g.f1 g.f2 start mark _ w (closed_f g start mark)
end
section
open Go.RowKit Go.Proofs.YtgipepjpkmlmaaaW.PrintWords Go.Proofs.YtgipepjpkmlmaaaW.PrintLast Go.Proofs.YtgipepjpkmlmaaaW.PrintMore
/-- What the two closures see: the grid's box and the state's. -/
structure Sees (w : World) (gg gs : Nat) (g : S23) (mark : Int) : Prop where
  grid : w.heap[gg]? = some (.cells #[.int .i64 g.f0, .int .i64 g.f1, .int .i64 g.f2] 23 (0, 0))
  st : ∃ cs, w.heap[gs]? = some (.cells cs 28 (0, 0)) ∧ cs[0]? = some (.int .i64 mark)
theorem Sees.below {w w' : World} {gg gs : Nat} {g : S23} {mark : Int} (h : Sees w gg gs g mark) (hb : Below w.heap.size w w') : Sees w' gg gs g mark := by
  obtain ⟨h1, cs, h2, h3⟩ := h
  exact ⟨blk_below h1 hb, cs, blk_below h2 hb, h3⟩
end
section
open Go.RowKit Go.Proofs.YtgipepjpkmlmaaaW.PrintWords Go.Proofs.YtgipepjpkmlmaaaW.PrintLast Go.Proofs.YtgipepjpkmlmaaaW.PrintMore
end
section
open Go.RowKit Go.Proofs.YtgipepjpkmlmaaaW.PrintWords Go.Proofs.YtgipepjpkmlmaaaW.PrintLast Go.Proofs.YtgipepjpkmlmaaaW.PrintMore
/-- The cells of a row of numbers. -/
def flatI (l : List Int) : List Value := l.map (.int .i64)
end
section
open Go.RowKit Go.Proofs.YtgipepjpkmlmaaaW.PrintWords Go.Proofs.YtgipepjpkmlmaaaW.PrintLast Go.Proofs.YtgipepjpkmlmaaaW.PrintMore
/-- The starts that are not closed. -/
def keepI (g : S23) (mark : Int) (l : List Int) : List Int := l.filter (fun t => !closedP g t mark)
end
section
open Go.RowKit Go.Proofs.YtgipepjpkmlmaaaW.PrintWords Go.Proofs.YtgipepjpkmlmaaaW.PrintLast Go.Proofs.YtgipepjpkmlmaaaW.PrintMore
/-- A row, parted at a window. -/
theorem flat_at (l : List S46) (i : Nat) (hi : i < l.length) (tl : List Value) : flat l ++ tl = flat (l.take i) ++ (c12 (rd_T46 l (i : Int)) ++ (flat (l.drop (i + 1)) ++ tl)) := by
  have e : rd_T46 l (i : Int) = l[i] := by simp [rd_T46, List.getD, List.getElem?_eq_getElem hi]
  have e2 : l = l.take i ++ l[i] :: l.drop (i + 1) := by rw [← List.drop_eq_getElem_cons hi, List.take_append_drop]
  conv => lhs; rw [e2, flat_append, flat_cons]
  rw [e]
  simp
theorem cell_at {w : World} {gr : Nat} {l : List S46} {tl : List Value} (h : w.heap[gr]? = some (.cells (flat l ++ tl).toArray 46 (0, 0))) (i : Nat) (hi : i < l.length) (k : Nat) (v : Value) (hv : (c12 (rd_T46 l (i : Int)))[k]? = some v) :
    w.cell? ⟨gr, i * 12 + k, none⟩ = some v := by
  have hk : k < 12 := (List.getElem?_eq_some_iff.1 hv).1
  have hP : (flat (l.take i)).length = i * 12 := by rw [flat_length, List.length_take, Nat.min_eq_left (by omega)]
  rw [blk_cell h, List.getElem?_toArray, flat_at l i hi tl, List.getElem?_append_right (by omega), hP, show i * 12 + k - i * 12 = k by omega, List.getElem?_append_left (by rw [c12_length]; exact hk)]
  exact hv
end
end Go.Proofs.Ytgipepjpkmlmaaa.P
namespace Go.Proofs.Ytgipepjpkmlmaaa.P
set_option linter.unusedVariables false
set_option linter.unusedSimpArgs false
section
open Go.RowKit Go.Proofs.YtgipepjpkmlmaaaW.PrintWords Go.Proofs.YtgipepjpkmlmaaaW.PrintLast Go.Proofs.YtgipepjpkmlmaaaW.PrintMore
/-- One start's part of it. -/
def takeS (key v t : Int) (l : List S46) : List S46 :=
  let x : S46 := ⟨key, t, z44⟩
  let l2 := if bsF l x = true then l else l.take (bsI l x) ++ x :: l.drop (bsI l x)
  let y := rd_T46 l2 (bsI l x : Int)
  l2.set (bsI l x) ⟨y.f0, y.f1, addP y.f2 v⟩
def takeN (key v : Int) (ts : List Int) (l : List S46) : List S46 := ts.foldl (fun l t => takeS key v t l) l
end
section
open Go.RowKit Go.Proofs.YtgipepjpkmlmaaaW.PrintWords Go.Proofs.YtgipepjpkmlmaaaW.PrintLast Go.Proofs.YtgipepjpkmlmaaaW.PrintMore
/-- What is over: its box, with its row. -/
structure Over (w : World) (B go : Nat) (lo : List S46) : Prop where
  lt : B ≤ go
  row : ∃ vo, w.heap[go]? = some (.cells #[vo] 26 (0, 0)) ∧ Kd.R k46 46 w B (fun k => k ≠ go) vo lo
theorem Over.below {w w' : World} {B go : Nat} {lo : List S46} (h : Over w B go lo) (hb : Below w.heap.size w w') : Over w' B go lo := by
  obtain ⟨h1, vo, h2, h3⟩ := h
  exact ⟨h1, vo, blk_below h2 hb, Kd.R_below h3 hb⟩
end
section
open Go.RowKit Go.Proofs.YtgipepjpkmlmaaaW.PrintWords Go.Proofs.YtgipepjpkmlmaaaW.PrintLast Go.Proofs.YtgipepjpkmlmaaaW.PrintMore
theorem rd46 (l : List S46) (i : Nat) (h : i < l.length) : rd_T46 l (i : Int) = l[i] := by simp [rd_T46, List.getD, List.getElem?_eq_getElem h]
theorem Over.len {w : World} {B go : Nat} {lo : List S46} (h : Over w B go lo) : lo.length ≤ lo.length := Nat.le_refl _
end
end Go.Proofs.Ytgipepjpkmlmaaa.P
namespace Go.Proofs.Ytgipepjpkmlmaaa.P
open Go.RowKit Go.Proofs.YtgipepjpkmlmaaaW.PrintWords Go.Proofs.YtgipepjpkmlmaaaW.PrintLast Go.Proofs.YtgipepjpkmlmaaaW.PrintMore
set_option linter.unusedVariables false
set_option linter.unusedSimpArgs false
theorem Over.other {w w' : World} {B go gr : Nat} {lo : List S46} (h : Over w B go lo) (hgr : gr < B) (ho : ∀ k, k ≠ gr → w'.heap[k]? = w.heap[k]?) : Over w' B go lo := by
  obtain ⟨h1, vo, h2, h3⟩ := h
  refine ⟨h1, vo, (ho go (by omega)).trans h2, R_of_own ⟨(own_of_R h3).1, ?_⟩ h3.1⟩
  rcases (own_of_R h3).2 with e | ⟨g, cap, cur, e, q1, q2, q3⟩
  · exact .inl e
  · exact .inr ⟨g, cap, cur, e, q1, (ho g (by omega)).trans q2, q3⟩
end Go.Proofs.Ytgipepjpkmlmaaa.P
namespace Go.Proofs.Ytgipepjpkmlmaaa.P
open Go.RowKit Go.Proofs.YtgipepjpkmlmaaaW.PrintWords Go.Proofs.YtgipepjpkmlmaaaW.PrintLast Go.Proofs.YtgipepjpkmlmaaaW.PrintMore
set_option linter.unusedVariables false
set_option linter.unusedSimpArgs false
/-- How far a region has come. -/
def lsB : Nat → Nat → List Bool
  | 0, _ => []
  | n + 1, 0 => false :: lsB n 0
  | n + 1, k + 1 => true :: lsB n k
def lsA (n k : Nat) : Array Bool := (lsB n k).toArray
section
variable {P : Program} {ops : Array Oper} {Q : Exit → Act → World → Prop} {md : Region.Mode} {S : World → Prop}
/-- 'wpAnyH_take', with the operation, the list and the state written out. -/
theorem takeD {i : Nat} {oi : Oper} {d : Option Nat} {v : Value} {fuel : Nat} {listed ls2 : Array Bool} {a ac2 : Act} {w : World} (hi : ops.toList[i]? = some oi) (hd : oi.dst = d)
    (hs : Region.noSelect ops = true) (hf : Region.free md ops listed i = true) (hr : (Region.ready md ops listed).contains i = true)
    (hQ : ∀ c a w, Q (.panic c) (a.put oi.dst v) w → Q (.panic c) a w) (hy : YieldsIf P ops S oi v a) (hS : S w) (hl : listed.setIfInBounds i true = ls2) (ha : a.put d v = ac2)
    (h : wpAnyH P md ops Q S fuel ls2 ac2 w) : wpAnyH P md ops Q S (fuel + 1) listed a w := by
  subst hl ha hd
  exact wpAnyH_take (by rw [← hi, Array.getElem?_toList]) hs hf hr hQ hy hS h
/-- One operation that comes up alone. -/
theorem doD {i : Nat} {o : Oper} {fuel : Nat} {listed ls2 : Array Bool} {a : Act} {w : World} (hr : Region.ready md ops listed = [i]) (hi : ops.toList[i]? = some o) (hl : listed.setIfInBounds i true = ls2)
    (hw : Region.wanted o (yielded ops a.tmps) = true)
    (h : ∀ K' : Act → World → Prop, Shut (∀ a w, S w → (S w → wpAnyH P md ops Q S fuel ls2 a w) → K' a w) → Oper.wp P o a w K' Q) : wpAnyH P md ops Q S (fuel + 1) listed a w := by
  subst hl
  refine wpAnyH_ready hr (by simp) (AllReadyH.cons (by rw [← hi, Array.getElem?_toList]) (fun K hK => ?_) AllReadyH.nil)
  rw [if_pos hw]
  exact h K hK
/-- takeD and the leaving out, their proofs being what they are nearly always. -/
theorem takeE (i : Nat) (d : Option Nat) (ls2 : Array Bool) {oi : Oper} {v : Value} {fuel : Nat} {listed : Array Bool} {a ac2 : Act} {w : World} (hS : S w) (h : wpAnyH P md ops Q S fuel ls2 ac2 w)
    (hi : ops.toList[i]? = some oi := by exact rfl) (hd : oi.dst = d := by exact rfl)
    (hs : Region.noSelect ops = true := by kernel_rfl) (hf : Region.free md ops listed i = true := by kernel_rfl) (hr : (Region.ready md ops listed).contains i = true := by kernel_rfl)
    (hQ : ∀ c a w, Q (.panic c) (a.put oi.dst v) w → Q (.panic c) a w := by exact fun _ _ _ h => h) (hw : Region.wanted oi (yielded ops a.tmps) = true := by kernel_rfl)
    (hy : ∀ w_, S w_ → (execOp a.eval oi).run P w_ = .ok (.value v) w_ := by (intro w_ hS_; go_simp <;> with_reducible rfl)) (hl : listed.setIfInBounds i true = ls2 := by kernel_rfl)
    (ha : a.put d v = ac2 := by simp only [Act.put, List.setIfInBounds_toArray, List.set_cons_zero, List.set_cons_succ] <;> with_reducible rfl) : wpAnyH P md ops Q S (fuel + 1) listed a w :=
  takeD hi hd hs hf hr hQ (Or.inl ⟨hw, hy⟩) hS hl ha h
theorem offE (i : Nat) (d : Option Nat) (ls2 : Array Bool) {oi : Oper} {fuel : Nat} {listed : Array Bool} {a ac2 : Act} {w : World} (hS : S w) (h : wpAnyH P md ops Q S fuel ls2 ac2 w)
    (hi : ops.toList[i]? = some oi := by exact rfl) (hd : oi.dst = d := by exact rfl)
    (hs : Region.noSelect ops = true := by kernel_rfl) (hf : Region.free md ops listed i = true := by kernel_rfl) (hr : (Region.ready md ops listed).contains i = true := by kernel_rfl)
    (hQ : ∀ c a w, Q (.panic c) (a.put oi.dst undef) w → Q (.panic c) a w := by exact fun _ _ _ h => h) (hw : Region.wanted oi (yielded ops a.tmps) = false := by kernel_rfl)
    (hl : listed.setIfInBounds i true = ls2 := by kernel_rfl)
    (ha : a.put d undef = ac2 := by simp only [Act.put, List.setIfInBounds_toArray, List.set_cons_zero, List.set_cons_succ] <;> with_reducible rfl) : wpAnyH P md ops Q S (fuel + 1) listed a w :=
  takeD hi hd hs hf hr hQ (Or.inr ⟨hw, rfl⟩) hS hl ha h
end
end Go.Proofs.Ytgipepjpkmlmaaa.P
